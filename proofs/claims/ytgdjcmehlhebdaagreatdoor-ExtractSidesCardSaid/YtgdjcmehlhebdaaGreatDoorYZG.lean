/-
  Walks: orders, which are right, which fit. Printed by a program of ours.
-/
import Derived.Test.YtgdjcmehlhebdaaGreatDoorY8
import Derived.Test.YtgdjcmehlhebdaaGreatDoorXQ
namespace Go.Proofs.YtgdjcmehlhebdaaGreatDoor
open Go.E
set_option linter.unusedVariables false
set_option maxRecDepth 4000
theorem right_small {o : Order} (h : rightO o) : o.xs.length ≤ 256 := by
  rcases h with ⟨_, _, a, _⟩ | ⟨_, _, a, _⟩ | ⟨_, a, _⟩
  · exact a.2.1
  · exact a.2.1
  · omega
set_option maxHeartbeats 400000 in
theorem seal84_walk (e : Nat) (he : e < 18446744073709551616) (w0 : World) :
    Calls Tryz.prog 159 #[.int .u64 ((0 : Nat) : Int), .int .u64 (e : Int)] w0 (Post w0 [] fun v L => v = .bool (decide (epOk e)) ∧ L = []) := by
  refine Calls.of (L := []) (n := 15) (rs := [.tmp 4]) Tryz.func159 rfl rfl rfl (Nat.le_of_ble_eq_true rfl) (Sat.nil _) ?_
  refine TC.seq ?_
  refine TC.region ?_
  refine S.as ?_
  refine S.nil ?_
  refine TC.seq ?_
  refine TC.region ?_
  refine S.mv ?_
  refine S.q rfl rfl (Qt.dT (Qt.lt (b := 4294967296) rfl rfl) (by decide)) ?_
  refine S.mv ?_
  refine S.qg rfl rfl rfl (Qt.move (by conv => lhs; whnf)) ?_
  refine S.decg rfl rfl rfl (Qt.ge (b := 1) rfl rfl) (fun h9 => ?_) (fun h9 => ?_)
  · refine S.q rfl rfl (Qt.pick_t rfl (by conv => lhs; whnf)) ?_
    refine S.mv ?_
    refine S.qg rfl rfl rfl (Qt.move (by conv => lhs; whnf)) ?_
    refine S.decg rfl rfl rfl (Qt.lt (b := 18446744073709551615) rfl rfl) (fun h13 => ?_) (fun h13 => ?_)
    · refine S.q rfl rfl (Qt.pick_t rfl (by conv => lhs; whnf)) ?_
      refine S.as ?_
      refine S.nil ?_
      refine TC.ret ?_
      refine finQ.ret (RVs.tmp (by conv => lhs; whnf) RVs.nil) (Sub.nil _) ?_
      exact ⟨by rw [decide_eq_true (p := epOk e) ⟨h9, h13⟩]; rfl, rfl⟩
    · refine S.q rfl rfl (Qt.pick_t rfl (by conv => lhs; whnf)) ?_
      refine S.as ?_
      refine S.nil ?_
      refine TC.ret ?_
      refine finQ.ret (RVs.tmp (by conv => lhs; whnf) RVs.nil) (Sub.nil _) ?_
      exact ⟨by rw [decide_eq_false (p := epOk e) (fun h => by obtain ⟨a, b⟩ := h; omega)]; rfl, rfl⟩
  · refine S.q rfl rfl (Qt.pick_t rfl (by conv => lhs; whnf)) ?_
    refine S.mv ?_
    refine S.pass rfl rfl ?_
    refine S.pass rfl rfl ?_
    refine S.q rfl rfl (Qt.pick_f rfl (by conv => lhs; whnf)) ?_
    refine S.as ?_
    refine S.nil ?_
    refine TC.ret ?_
    refine finQ.ret (RVs.tmp (by conv => lhs; whnf) RVs.nil) (Sub.nil _) ?_
    exact ⟨by rw [decide_eq_false (p := epOk e) (fun h => by obtain ⟨a, b⟩ := h; omega)]; rfl, rfl⟩
theorem seal84_R (e : Nat) (he : e < 18446744073709551616) (w0 : World) : Calls Tryz.prog 159 #[.int .u64 ((0 : Nat) : Int), .int .u64 (e : Int)] w0 (Ret w0 (.bool (decide (epOk e)))) := Calls.ret (seal84_walk e he w0)

set_option maxHeartbeats 400000 in
theorem odd83_walk (x : Sealed) (ob : Nat) (A : Option Addr) (c : Nat) (B : Option Addr) (d : Nat) (o : Order) (h0 : 0 < o.ss.length) (w0 : World) (hO : Ro w0 [] (Blk ob 58 (orderV A c B d o))) (hS : Ro w0 [] (SlA B (o.ss.flatMap sealL))) :
    Calls Tryz.prog 158 #[.agg (sealL x).toArray, .pointer (some ⟨ob, 0, none⟩)] w0 (Post w0 [] fun v L => v = .bool (oddS o.ss x) ∧ L = []) := by
  refine Calls.of (L := []) (n := 18) (rs := [.tmp 3]) Tryz.func158 rfl rfl rfl (Nat.le_of_ble_eq_true rfl) (Sat.nil _) ?_
  refine TC.seq ?_
  refine TC.region ?_
  refine S.opS rfl rfl (OpV.box (v := .agg (sealL x).toArray) rfl (fun b2 => ?_))
  refine S.as ?_
  refine S.nil ?_
  refine TC.seq ?_
  refine S.draw ([], []) Tryz.mixed (Sub.nil _) ?_
  refine D.qY 0 rfl (Qt.field Tryz.underlying136 rfl Tryz.cells40 rfl) ?_
  refine D.qY 1 rfl (Qt.load rfl (Ld.one (v := .int .u64 (x.ep : Int)) (Has.at 0 rfl) Tryz.one40 rfl)) ?_
  by_cases hep : epOk x.ep
  · refine D.cX (k := 2) rfl (by kernel_rfl) (by kernel_rfl) (by kernel_rfl) rfl rfl (CalU.con0 Tryz.ent159 rfl (fun w hw => (by have h := seal84_R x.ep x.lt w; rw [decide_eq_true hep] at h; exact h))) ?_
    refine D.qY 3 rfl (Qt.not_t rfl) ?_
    refine D.qY 4 rfl (Qt.move (by conv => lhs; whnf)) ?_
    refine D.qgX (k := 5) rfl (by kernel_rfl) (by kernel_rfl) (by kernel_rfl) rfl rfl rfl (Qt.field Tryz.underlying136 rfl Tryz.cells40 rfl) ?_
    refine D.qgX (k := 6) rfl (by kernel_rfl) (by kernel_rfl) (by kernel_rfl) rfl rfl rfl (Qt.load rfl (Ld.one (v := .int .u64 (x.ep : Int)) (Has.at 0 rfl) Tryz.one40 rfl)) ?_
    refine D.qgX (k := 7) rfl (by kernel_rfl) (by kernel_rfl) (by kernel_rfl) rfl rfl rfl (Qt.field Tryz.underlying58 rfl Tryz.cells56 rfl) ?_
    refine D.qgX (k := 8) rfl (by kernel_rfl) (by kernel_rfl) (by kernel_rfl) rfl rfl rfl (Qt.load rfl (Ld.one (v := .slice B o.ss.length d) (Has.ro hO) Tryz.one56 rfl)) ?_
    refine D.qgX (k := 9) rfl (by kernel_rfl) (by kernel_rfl) (by kernel_rfl) rfl rfl rfl (Qt.index (i := 0) Tryz.underlying56 Tryz.cells136 rfl rfl (h0) (Has.ro hS) (by rw [sealS_len]; omega)) ?_
    refine D.qgX (k := 10) rfl (by kernel_rfl) (by kernel_rfl) (by kernel_rfl) rfl rfl rfl (Qt.fieldS Tryz.underlying136 rfl Tryz.cells40 rfl (Has.ro hS) (by rw [sealS_len]; omega)) ?_
    refine D.qgX (k := 11) rfl (by kernel_rfl) (by kernel_rfl) (by kernel_rfl) rfl rfl rfl (Qt.load rfl (Ld.sl (v := .int .u64 (((o.ss.getD 0 zeroS).ep) : Int)) (Has.ro hS) Tryz.one40 (sealS_at h0 rfl 0 _ rfl))) ?_
    refine D.decgX (k := 12) rfl (by kernel_rfl) (by kernel_rfl) (by kernel_rfl) rfl rfl rfl (Qt.ne rfl rfl) (fun h16 => ?_) (fun h16 => ?_)
    · refine D.qY 13 rfl (Qt.pick_f rfl (by conv => lhs; whnf)) ?_
      refine D.qY 14 rfl (Qt.assign (by conv => lhs; whnf)) ?_
      refine D.done (Sub.nil _) (by kernel_rfl) ?_
      refine TC.ret ?_
      refine finQ.ret (RVs.tmp (by conv => lhs; whnf) RVs.nil) (Sub.nil _) ?_
      exact ⟨by rw [oddS, decide_eq_true (.inr h16)]; rfl, rfl⟩
    · refine D.qY 13 rfl (Qt.pick_f rfl (by conv => lhs; whnf)) ?_
      refine D.qY 14 rfl (Qt.assign (by conv => lhs; whnf)) ?_
      refine D.done (Sub.nil _) (by kernel_rfl) ?_
      refine TC.ret ?_
      refine finQ.ret (RVs.tmp (by conv => lhs; whnf) RVs.nil) (Sub.nil _) ?_
      exact ⟨by rw [oddS, decide_eq_false (fun h => h.elim (fun q => q hep) h16)]; rfl, rfl⟩
  · refine D.cX (k := 2) rfl (by kernel_rfl) (by kernel_rfl) (by kernel_rfl) rfl rfl (CalU.con0 Tryz.ent159 rfl (fun w hw => (by have h := seal84_R x.ep x.lt w; rw [decide_eq_false hep] at h; exact h))) ?_
    refine D.qY 3 rfl (Qt.not_f rfl) ?_
    refine D.qY 4 rfl (Qt.move (by conv => lhs; whnf)) ?_
    refine D.pass (k := 5) rfl (by kernel_rfl) (by kernel_rfl) rfl rfl rfl ?_
    refine D.pass (k := 6) rfl (by kernel_rfl) (by kernel_rfl) rfl rfl rfl ?_
    refine D.pass (k := 7) rfl (by kernel_rfl) (by kernel_rfl) rfl rfl rfl ?_
    refine D.pass (k := 8) rfl (by kernel_rfl) (by kernel_rfl) rfl rfl rfl ?_
    refine D.pass (k := 9) rfl (by kernel_rfl) (by kernel_rfl) rfl rfl rfl ?_
    refine D.pass (k := 10) rfl (by kernel_rfl) (by kernel_rfl) rfl rfl rfl ?_
    refine D.pass (k := 11) rfl (by kernel_rfl) (by kernel_rfl) rfl rfl rfl ?_
    refine D.pass (k := 12) rfl (by kernel_rfl) (by kernel_rfl) rfl rfl rfl ?_
    refine D.qY 13 rfl (Qt.pick_t rfl (by conv => lhs; whnf)) ?_
    refine D.qY 14 rfl (Qt.assign (by conv => lhs; whnf)) ?_
    refine D.done (Sub.nil _) (by kernel_rfl) ?_
    refine TC.ret ?_
    refine finQ.ret (RVs.tmp (by conv => lhs; whnf) RVs.nil) (Sub.nil _) ?_
    exact ⟨by rw [oddS, decide_eq_true (.inl hep)]; rfl, rfl⟩
set_option maxHeartbeats 400000 in
theorem idxS_walk (fn : FuncId) (cp : Array Value) (q : Sealed → Bool) (hent : Enters Tryz.prog fn) (B : Option Addr) (d : Nat) (ss : List Sealed) (hn : ss.length ≤ 65536)  (w0 : World) (hS : Ro w0 [] (SlA B (ss.flatMap sealL))) (hf : ∀ x ∈ ss, ∀ w, St w0 [] [] w → Calls Tryz.prog fn ((([.agg (sealL x).toArray] : List Value) ++ cp.toList).toArray) w (Ret w (.bool (q x)))) :
    Calls Tryz.prog 193 #[.slice B ss.length d, .func (.func fn) #[] cp] w0 (Post w0 [] fun v L => ∃ z : Int, v = .int .i64 z ∧ L = [] ∧ (z < 0 → ∀ s ∈ ss, q s = false) ∧ (0 ≤ z → ∃ s ∈ ss, q s = true)) := by
  refine Calls.of (L := []) (n := 19) (rs := [.tmp 4]) Tryz.func193 rfl rfl rfl (Nat.le_of_ble_eq_true rfl) (Sat.nil _) ?_
  refine TC.seq ?_
  refine TC.region ?_
  refine S.as ?_
  refine S.nil ?_
  refine TC.seq ?_
  refine TC.seq ?_
  refine TC.region ?_
  refine S.mv ?_
  refine S.q rfl rfl (Qt.len_slice Tryz.underlying56 rfl) ?_
  refine S.mv ?_
  refine S.nil ?_
  refine TC.block ?_
  refine TC.loop (γ := Nat) [9, 10, 5, 11, 12, 13, 14, 15, 16, 17, 4, 18, 8] (fun k => [(8, .int .i64 (k : Int))]) (fun _ => _) (fun k => k ≤ ss.length ∧ ∀ j, j < k → q (ss.getD j zeroS) = false) (fun k => ss.length - k) (0)
    ⟨Nat.zero_le _, fun j h => absurd h (Nat.not_lt_zero _)⟩ ⟨Out.refl _ _, (List.forall_mem_cons.2 ⟨rfl, (fun _ h => nomatch h)⟩)⟩ (Sub.refl _) ?_
  rintro k u ⟨hk, hq⟩
  refine TC.seq ?_
  refine TC.region ?_
  refine S.dec rfl rfl (Qt.lt rfl rfl) (fun h9 => ?_) (fun h9 => ?_)
  · refine S.nil ?_
    refine TC.seq ?_
    refine S.if_t rfl ?_
    refine TC.skip ?_
    refine TC.seq ?_
    refine TC.block ?_
    refine TC.seq ?_
    refine TC.region ?_
    refine S.mv ?_
    refine S.as ?_
    refine S.nil ?_
    refine TC.seq ?_
    refine TC.region ?_
    refine S.mv ?_
    refine S.mv ?_
    refine S.mv ?_
    refine S.q rfl rfl (Qt.index Tryz.underlying56 Tryz.cells136 rfl rfl (by omega) (Has.ro hS) (by rw [sealS_len]; omega)) ?_
    refine S.q rfl rfl (Qt.load rfl (Ld.slr (vs := sealL (ss.getD k zeroS)) (Has.ro hS) Tryz.row136 (by rw [sealL_length]; exact Tryz.cells136) (by rw [sealL_length]; decide) (sealS_at h9 rfl))) ?_
    refine S.opS rfl rfl (OpV.con0 hent rfl (fun w hw => hf _ (sealM h9) w hw) ?_)
    refine S.nil ?_
    refine TC.ifb rfl (fun b16 => ?_) (fun b16 => ?_)
    · refine TC.seq ?_
      refine TC.region ?_
      refine S.mv ?_
      refine S.as ?_
      refine S.nil ?_
      refine TC.ret ?_
      refine finQ.ret (RVs.tmp (by conv => lhs; whnf) RVs.nil) (Sub.nil _) ?_
      exact ⟨_, rfl, rfl, fun h => by omega, fun _ => ⟨_, sealM h9, b16⟩⟩
    · refine TC.skip ?_
      refine TC.region ?_
      refine S.q rfl rfl (Qt.add (b := 1) rfl rfl (by simp only [kmax]; omega)) ?_
      refine S.mv ?_
      refine S.nil ?_
      refine ⟨k + 1, ?_, ?_, ⟨?_, (List.forall_mem_cons.2 ⟨rfl, (fun _ h => nomatch h)⟩)⟩, Sub.refl _⟩
      · exact ⟨by show _ ≤ _; omega, fun j hj => (Nat.lt_or_ge j k).elim (hq j) (fun h => by (obtain rfl : j = k := by omega); exact b16)⟩
      · show _ < _; dsimp only; omega
      repeat (first | exact Out.refl _ _ | refine Out.put rfl ?_ | refine Out.puts rfl ?_ | refine Out.scr ?_ | refine Out.scr' rfl ?_)
  · refine S.nil ?_
    refine TC.seq ?_
    refine S.if_f rfl ?_
    refine TC.exit ?_
    refine TC.seq ?_
    refine TC.region ?_
    refine S.as ?_
    refine S.nil ?_
    refine TC.ret ?_
    refine finQ.ret (RVs.tmp (by conv => lhs; whnf) RVs.nil) (Sub.nil _) ?_
    refine ⟨_, rfl, rfl, fun _ s hs => ?_, fun h => absurd h (by decide)⟩
    obtain ⟨j, hj, rfl⟩ := List.mem_iff_getElem.1 hs
    have := hq j (by omega)
    simpa [List.getD, hj] using this
set_option maxHeartbeats 400000 in
theorem contS_walkT (fn : FuncId) (cp : Array Value) (q : Sealed → Bool) (hent : Enters Tryz.prog fn) (B : Option Addr) (d : Nat) (ss : List Sealed) (hn : ss.length ≤ 65536) (hq : ∃ s ∈ ss, q s = true) (w0 : World) (hS : Ro w0 [] (SlA B (ss.flatMap sealL))) (hf : ∀ x ∈ ss, ∀ w, St w0 [] [] w → Calls Tryz.prog fn ((([.agg (sealL x).toArray] : List Value) ++ cp.toList).toArray) w (Ret w (.bool (q x)))) :
    Calls Tryz.prog 160 #[.slice B ss.length d, .func (.func fn) #[] cp] w0 (Post w0 [] fun v L => v = .bool true ∧ L = []) := by
  refine Calls.of (L := []) (n := 9) (rs := [.tmp 4]) Tryz.func160 rfl rfl rfl (Nat.le_of_ble_eq_true rfl) (Sat.nil _) ?_
  refine TC.seq ?_
  refine TC.region ?_
  refine S.as ?_
  refine S.nil ?_
  refine TC.seq ?_
  refine TC.region ?_
  refine S.mv ?_
  refine S.mv ?_
  refine S.opS rfl rfl (OpV.con (Pre := []) (R := _) Tryz.ent193 rfl (List.Perm.refl _) (fun w hw => idxS_walk fn cp q hent B d ss hn w (Rd.ro hS w hw) (fun x hx w1 s1 => hf x hx w1 ((hw.sub (Sub.nil _)).after0 s1))) ?_)
  rintro v L' ⟨z, rfl, rfl, hz1, hz2⟩
  refine S.q rfl rfl (Qt.dT (Qt.gei rfl rfl) (Int.not_lt.1 (fun h => by obtain ⟨s, h1, h2⟩ := hq; rw [hz1 h s h1] at h2; cases h2))) ?_
  refine S.as ?_
  refine S.nil ?_
  refine TC.ret ?_
  refine finQ.ret (RVs.tmp (by conv => lhs; whnf) RVs.nil) (Sub.nil _) ?_
  exact ⟨rfl, rfl⟩
theorem contST_R (fn : FuncId) (cp : Array Value) (q : Sealed → Bool) (hent : Enters Tryz.prog fn) (B : Option Addr) (d : Nat) (ss : List Sealed) (hn : ss.length ≤ 65536) (hq : ∃ s ∈ ss, q s = true) (w0 : World) (hS : Ro w0 [] (SlA B (ss.flatMap sealL))) (hf : ∀ x ∈ ss, ∀ w, St w0 [] [] w → Calls Tryz.prog fn ((([.agg (sealL x).toArray] : List Value) ++ cp.toList).toArray) w (Ret w (.bool (q x)))) : Calls Tryz.prog 160 #[.slice B ss.length d, .func (.func fn) #[] cp] w0 (Ret w0 (.bool true)) := Calls.ret (contS_walkT fn cp q hent B d ss hn hq w0 hS hf)

set_option maxHeartbeats 400000 in
theorem contS_walkF (fn : FuncId) (cp : Array Value) (q : Sealed → Bool) (hent : Enters Tryz.prog fn) (B : Option Addr) (d : Nat) (ss : List Sealed) (hn : ss.length ≤ 65536) (hq : ∀ s ∈ ss, q s = false) (w0 : World) (hS : Ro w0 [] (SlA B (ss.flatMap sealL))) (hf : ∀ x ∈ ss, ∀ w, St w0 [] [] w → Calls Tryz.prog fn ((([.agg (sealL x).toArray] : List Value) ++ cp.toList).toArray) w (Ret w (.bool (q x)))) :
    Calls Tryz.prog 160 #[.slice B ss.length d, .func (.func fn) #[] cp] w0 (Post w0 [] fun v L => v = .bool false ∧ L = []) := by
  refine Calls.of (L := []) (n := 9) (rs := [.tmp 4]) Tryz.func160 rfl rfl rfl (Nat.le_of_ble_eq_true rfl) (Sat.nil _) ?_
  refine TC.seq ?_
  refine TC.region ?_
  refine S.as ?_
  refine S.nil ?_
  refine TC.seq ?_
  refine TC.region ?_
  refine S.mv ?_
  refine S.mv ?_
  refine S.opS rfl rfl (OpV.con (Pre := []) (R := _) Tryz.ent193 rfl (List.Perm.refl _) (fun w hw => idxS_walk fn cp q hent B d ss hn w (Rd.ro hS w hw) (fun x hx w1 s1 => hf x hx w1 ((hw.sub (Sub.nil _)).after0 s1))) ?_)
  rintro v L' ⟨z, rfl, rfl, hz1, hz2⟩
  refine S.q rfl rfl (Qt.dF (Qt.gei rfl rfl) (fun h => by obtain ⟨s, h1, h2⟩ := hz2 h; rw [hq s h1] at h2; cases h2)) ?_
  refine S.as ?_
  refine S.nil ?_
  refine TC.ret ?_
  refine finQ.ret (RVs.tmp (by conv => lhs; whnf) RVs.nil) (Sub.nil _) ?_
  exact ⟨rfl, rfl⟩
theorem contSF_R (fn : FuncId) (cp : Array Value) (q : Sealed → Bool) (hent : Enters Tryz.prog fn) (B : Option Addr) (d : Nat) (ss : List Sealed) (hn : ss.length ≤ 65536) (hq : ∀ s ∈ ss, q s = false) (w0 : World) (hS : Ro w0 [] (SlA B (ss.flatMap sealL))) (hf : ∀ x ∈ ss, ∀ w, St w0 [] [] w → Calls Tryz.prog fn ((([.agg (sealL x).toArray] : List Value) ++ cp.toList).toArray) w (Ret w (.bool (q x)))) : Calls Tryz.prog 160 #[.slice B ss.length d, .func (.func fn) #[] cp] w0 (Ret w0 (.bool false)) := Calls.ret (contS_walkF fn cp q hent B d ss hn hq w0 hS hf)

set_option maxHeartbeats 3200000 in
theorem right62_walk (A : Option Addr) (c : Nat) (B : Option Addr) (d : Nat) (o : Order) (hss : o.ss.length ≤ 65536) (hxx : o.xs.length ≤ 65536) (w0 : World) (hlow : ∀ x ∈ o.xs, x < 18446744073709551616) (hR : Ro w0 [] (SlA A (u64s o.xs))) (hS : Ro w0 [] (SlA B (o.ss.flatMap sealL))) :
    Calls Tryz.prog 99 #[.agg (orderV A c B d o).toArray] w0 (Post w0 [] fun v L => v = .bool (decide (rightO o)) ∧ L = []) := by
  refine Calls.of (L := []) (n := 69) (rs := [.tmp 2]) Tryz.func99 rfl rfl rfl (Nat.le_of_ble_eq_true rfl) (Sat.nil _) ?_
  refine TC.seq ?_
  refine TC.region ?_
  refine S.opS rfl rfl (OpV.box (v := .agg (orderV A c B d o).toArray) rfl (fun b1 => ?_))
  refine S.as ?_
  refine S.nil ?_
  refine TC.seq ?_
  refine TC.region ?_
  refine S.q rfl rfl (Qt.makeFuncL (fs := []) (cs := [.pointer (some ⟨b1, 0, none⟩)]) rfl rfl) ?_
  refine S.as ?_
  refine S.nil ?_
  refine TC.seq ?_
  refine TC.seq ?_
  refine TC.region ?_
  refine S.q rfl rfl (Qt.field Tryz.underlying58 rfl Tryz.cells3 rfl) ?_
  refine S.q rfl rfl (Qt.load rfl (Ld.one (v := .int .i64 o.kind) (Has.at 0 rfl) Tryz.one3 rfl)) ?_
  refine S.nil ?_
  refine TC.block ?_
  refine TC.seq ?_
  refine TC.region ?_
  refine S.dec rfl rfl (Qt.eqi rfl rfl) (fun h8 => ?_) (fun h8 => ?_)
  · refine S.as ?_
    refine S.nil ?_
    refine S.if_t rfl ?_
    refine TC.seq ?_
    refine TC.region ?_
    refine S.q rfl rfl (Qt.field Tryz.underlying58 rfl Tryz.cells40 rfl) ?_
    refine S.q rfl rfl (Qt.load rfl (Ld.one (v := .int .u64 (o.blocks : Int)) (Has.at 0 rfl) Tryz.one40 rfl)) ?_
    refine S.dec rfl rfl (Qt.eq (b := 0) rfl rfl) (fun h11 => ?_) (fun h11 => ?_)
    · refine S.mv ?_
      refine S.qg rfl rfl rfl (Qt.field Tryz.underlying58 rfl Tryz.cells22 rfl) ?_
      refine S.qg rfl rfl rfl (Qt.load rfl (Ld.one (v := .slice A o.xs.length c) (Has.at 0 rfl) Tryz.one22 rfl)) ?_
      by_cases hi : idxOk 32 o.xs
      · refine S.opg rfl rfl rfl (OpV.con0 Tryz.ent41 rfl (fun w hw => right10_T 32 (by decide) A c o.xs hi w hlow (Rd.ro hR w hw)) ?_)
        refine S.q rfl rfl (Qt.pick_t rfl (by conv => lhs; whnf)) ?_
        refine S.mv ?_
        refine S.qg rfl rfl rfl (Qt.field Tryz.underlying58 rfl Tryz.cells56 rfl) ?_
        refine S.qg rfl rfl rfl (Qt.load rfl (Ld.one (v := .slice B o.ss.length d) (Has.at 0 rfl) Tryz.one56 rfl)) ?_
        refine S.qg rfl rfl rfl (Qt.len_slice Tryz.underlying56 rfl) ?_
        refine S.qg rfl rfl rfl (Qt.field Tryz.underlying58 rfl Tryz.cells22 rfl) ?_
        refine S.qg rfl rfl rfl (Qt.load rfl (Ld.one (v := .slice A o.xs.length c) (Has.at 0 rfl) Tryz.one22 rfl)) ?_
        refine S.qg rfl rfl rfl (Qt.len_slice Tryz.underlying22 rfl) ?_
        refine S.decg rfl rfl rfl (Qt.eq rfl rfl) (fun h24 => ?_) (fun h24 => ?_)
        · refine S.q rfl rfl (Qt.pick_t rfl (by conv => lhs; whnf)) ?_
          refine S.mv ?_
          refine S.qg rfl rfl rfl (Qt.field Tryz.underlying58 rfl Tryz.cells56 rfl) ?_
          refine S.qg rfl rfl rfl (Qt.load rfl (Ld.one (v := .slice B o.ss.length d) (Has.at 0 rfl) Tryz.one56 rfl)) ?_
          refine S.qg rfl rfl rfl (Qt.move (by conv => lhs; whnf)) ?_
          by_cases hany : ∃ s ∈ o.ss, oddS o.ss s = true
          · refine S.opg rfl rfl rfl (OpV.con0 Tryz.ent160 rfl (fun w hw => contST_R 158 #[.pointer (some ⟨b1, 0, none⟩)] (oddS o.ss) Tryz.ent158 B d o.ss hss hany w (Rd.ro hS w hw) (fun x hx w1 s1 => Calls.ret (odd83_walk x b1 A c B d o (by have := List.length_pos_of_mem hx; exact this) w1 ((Rd.at 0 rfl w hw).go s1 (fun b hb => by cases hb)) ((Rd.ro hS w hw).go s1 (fun b hb => by cases hb))))) ?_)
            refine S.qg rfl rfl rfl (Qt.not_t rfl) ?_
            refine S.q rfl rfl (Qt.pick_t rfl (by conv => lhs; whnf)) ?_
            refine S.as ?_
            refine S.nil ?_
            refine TC.ret ?_
            refine finQ.ret (RVs.tmp (by conv => lhs; whnf) RVs.nil) (Sub.nil _) ?_
            exact ⟨congrArg Value.bool (decide_eq_false (p := rightO o) (right_odd h8 hany)).symm, rfl⟩
          · refine S.opg rfl rfl rfl (OpV.con0 Tryz.ent160 rfl (fun w hw => contSF_R 158 #[.pointer (some ⟨b1, 0, none⟩)] (oddS o.ss) Tryz.ent158 B d o.ss hss (fun s hs => Bool.eq_false_iff.2 (fun e => hany ⟨s, hs, e⟩)) w (Rd.ro hS w hw) (fun x hx w1 s1 => Calls.ret (odd83_walk x b1 A c B d o (by have := List.length_pos_of_mem hx; exact this) w1 ((Rd.at 0 rfl w hw).go s1 (fun b hb => by cases hb)) ((Rd.ro hS w hw).go s1 (fun b hb => by cases hb))))) ?_)
            refine S.qg rfl rfl rfl (Qt.not_f rfl) ?_
            refine S.q rfl rfl (Qt.pick_t rfl (by conv => lhs; whnf)) ?_
            refine S.as ?_
            refine S.nil ?_
            refine TC.ret ?_
            refine finQ.ret (RVs.tmp (by conv => lhs; whnf) RVs.nil) (Sub.nil _) ?_
            exact ⟨congrArg Value.bool (decide_eq_true (p := rightO o) (right_1 h8 h11 hi h24 (fun s hs => Bool.eq_false_iff.2 (fun e => hany ⟨s, hs, e⟩)))).symm, rfl⟩
        · refine S.q rfl rfl (Qt.pick_t rfl (by conv => lhs; whnf)) ?_
          refine S.mv ?_
          refine S.pass rfl rfl ?_
          refine S.pass rfl rfl ?_
          refine S.pass rfl rfl ?_
          refine S.pass rfl rfl ?_
          refine S.pass rfl rfl ?_
          refine S.q rfl rfl (Qt.pick_f rfl (by conv => lhs; whnf)) ?_
          refine S.as ?_
          refine S.nil ?_
          refine TC.ret ?_
          refine finQ.ret (RVs.tmp (by conv => lhs; whnf) RVs.nil) (Sub.nil _) ?_
          refine ⟨congrArg Value.bool (decide_eq_false (p := rightO o) fun h => ?_).symm, rfl⟩
          rcases h with ⟨a1, a2, a3, a4, a5⟩ | ⟨a1, a2, a3, a4⟩ | ⟨a1, a2, a3, a4⟩ <;> first | omega | exact absurd a3 hi
      · refine S.opg rfl rfl rfl (OpV.con0 Tryz.ent41 rfl (fun w hw => right10_F 32 (by decide) A c o.xs hi w hlow (Rd.ro hR w hw)) ?_)
        refine S.q rfl rfl (Qt.pick_t rfl (by conv => lhs; whnf)) ?_
        refine S.mv ?_
        refine S.pass rfl rfl ?_
        refine S.pass rfl rfl ?_
        refine S.pass rfl rfl ?_
        refine S.pass rfl rfl ?_
        refine S.pass rfl rfl ?_
        refine S.pass rfl rfl ?_
        refine S.pass rfl rfl ?_
        refine S.q rfl rfl (Qt.pick_f rfl (by conv => lhs; whnf)) ?_
        refine S.mv ?_
        refine S.pass rfl rfl ?_
        refine S.pass rfl rfl ?_
        refine S.pass rfl rfl ?_
        refine S.pass rfl rfl ?_
        refine S.pass rfl rfl ?_
        refine S.q rfl rfl (Qt.pick_f rfl (by conv => lhs; whnf)) ?_
        refine S.as ?_
        refine S.nil ?_
        refine TC.ret ?_
        refine finQ.ret (RVs.tmp (by conv => lhs; whnf) RVs.nil) (Sub.nil _) ?_
        refine ⟨congrArg Value.bool (decide_eq_false (p := rightO o) fun h => ?_).symm, rfl⟩
        rcases h with ⟨a1, a2, a3, a4, a5⟩ | ⟨a1, a2, a3, a4⟩ | ⟨a1, a2, a3, a4⟩ <;> first | omega | exact absurd a3 hi
    · refine S.mv ?_
      refine S.pass rfl rfl ?_
      refine S.pass rfl rfl ?_
      refine S.pass rfl rfl ?_
      refine S.q rfl rfl (Qt.pick_f rfl (by conv => lhs; whnf)) ?_
      refine S.mv ?_
      refine S.pass rfl rfl ?_
      refine S.pass rfl rfl ?_
      refine S.pass rfl rfl ?_
      refine S.pass rfl rfl ?_
      refine S.pass rfl rfl ?_
      refine S.pass rfl rfl ?_
      refine S.pass rfl rfl ?_
      refine S.q rfl rfl (Qt.pick_f rfl (by conv => lhs; whnf)) ?_
      refine S.mv ?_
      refine S.pass rfl rfl ?_
      refine S.pass rfl rfl ?_
      refine S.pass rfl rfl ?_
      refine S.pass rfl rfl ?_
      refine S.pass rfl rfl ?_
      refine S.q rfl rfl (Qt.pick_f rfl (by conv => lhs; whnf)) ?_
      refine S.as ?_
      refine S.nil ?_
      refine TC.ret ?_
      refine finQ.ret (RVs.tmp (by conv => lhs; whnf) RVs.nil) (Sub.nil _) ?_
      refine ⟨congrArg Value.bool (decide_eq_false (p := rightO o) fun h => ?_).symm, rfl⟩
      rcases h with ⟨a1, a2, a3, a4, a5⟩ | ⟨a1, a2, a3, a4⟩ | ⟨a1, a2, a3, a4⟩ <;> first | omega | exact absurd a3 hi
  · refine S.as ?_
    refine S.nil ?_
    refine S.if_f rfl ?_
    refine TC.seq ?_
    refine TC.region ?_
    refine S.dec rfl rfl (Qt.eqi rfl rfl) (fun h34 => ?_) (fun h34 => ?_)
    · refine S.as ?_
      refine S.nil ?_
      refine S.if_t rfl ?_
      refine TC.seq ?_
      refine TC.region ?_
      refine S.q rfl rfl (Qt.field Tryz.underlying58 rfl Tryz.cells40 rfl) ?_
      refine S.q rfl rfl (Qt.load rfl (Ld.one (v := .int .u64 (o.blocks : Int)) (Has.at 0 rfl) Tryz.one40 rfl)) ?_
      refine S.dec rfl rfl (Qt.eq (b := 0) rfl rfl) (fun h37 => ?_) (fun h37 => ?_)
      · refine S.mv ?_
        refine S.qg rfl rfl rfl (Qt.field Tryz.underlying58 rfl Tryz.cells22 rfl) ?_
        refine S.qg rfl rfl rfl (Qt.load rfl (Ld.one (v := .slice A o.xs.length c) (Has.at 0 rfl) Tryz.one22 rfl)) ?_
        by_cases hi : idxOk 32 o.xs
        · refine S.opg rfl rfl rfl (OpV.con0 Tryz.ent41 rfl (fun w hw => right10_T 32 (by decide) A c o.xs hi w hlow (Rd.ro hR w hw)) ?_)
          refine S.q rfl rfl (Qt.pick_t rfl (by conv => lhs; whnf)) ?_
          refine S.mv ?_
          refine S.qg rfl rfl rfl (Qt.field Tryz.underlying58 rfl Tryz.cells56 rfl) ?_
          refine S.qg rfl rfl rfl (Qt.load rfl (Ld.one (v := .slice B o.ss.length d) (Has.at 0 rfl) Tryz.one56 rfl)) ?_
          refine S.qg rfl rfl rfl (Qt.len_slice Tryz.underlying56 rfl) ?_
          refine S.decg rfl rfl rfl (Qt.eq (b := 0) rfl rfl) (fun h47 => ?_) (fun h47 => ?_)
          · refine S.q rfl rfl (Qt.pick_t rfl (by conv => lhs; whnf)) ?_
            refine S.as ?_
            refine S.nil ?_
            refine TC.ret ?_
            refine finQ.ret (RVs.tmp (by conv => lhs; whnf) RVs.nil) (Sub.nil _) ?_
            exact ⟨congrArg Value.bool (decide_eq_true (p := rightO o) (.inr (.inl ⟨h34, h37, hi, h47⟩))).symm, rfl⟩
          · refine S.q rfl rfl (Qt.pick_t rfl (by conv => lhs; whnf)) ?_
            refine S.as ?_
            refine S.nil ?_
            refine TC.ret ?_
            refine finQ.ret (RVs.tmp (by conv => lhs; whnf) RVs.nil) (Sub.nil _) ?_
            refine ⟨congrArg Value.bool (decide_eq_false (p := rightO o) fun h => ?_).symm, rfl⟩
            rcases h with ⟨a1, a2, a3, a4, a5⟩ | ⟨a1, a2, a3, a4⟩ | ⟨a1, a2, a3, a4⟩ <;> first | omega | exact absurd a3 hi
        · refine S.opg rfl rfl rfl (OpV.con0 Tryz.ent41 rfl (fun w hw => right10_F 32 (by decide) A c o.xs hi w hlow (Rd.ro hR w hw)) ?_)
          refine S.q rfl rfl (Qt.pick_t rfl (by conv => lhs; whnf)) ?_
          refine S.mv ?_
          refine S.pass rfl rfl ?_
          refine S.pass rfl rfl ?_
          refine S.pass rfl rfl ?_
          refine S.pass rfl rfl ?_
          refine S.q rfl rfl (Qt.pick_f rfl (by conv => lhs; whnf)) ?_
          refine S.as ?_
          refine S.nil ?_
          refine TC.ret ?_
          refine finQ.ret (RVs.tmp (by conv => lhs; whnf) RVs.nil) (Sub.nil _) ?_
          refine ⟨congrArg Value.bool (decide_eq_false (p := rightO o) fun h => ?_).symm, rfl⟩
          rcases h with ⟨a1, a2, a3, a4, a5⟩ | ⟨a1, a2, a3, a4⟩ | ⟨a1, a2, a3, a4⟩ <;> first | omega | exact absurd a3 hi
      · refine S.mv ?_
        refine S.pass rfl rfl ?_
        refine S.pass rfl rfl ?_
        refine S.pass rfl rfl ?_
        refine S.q rfl rfl (Qt.pick_f rfl (by conv => lhs; whnf)) ?_
        refine S.mv ?_
        refine S.pass rfl rfl ?_
        refine S.pass rfl rfl ?_
        refine S.pass rfl rfl ?_
        refine S.pass rfl rfl ?_
        refine S.q rfl rfl (Qt.pick_f rfl (by conv => lhs; whnf)) ?_
        refine S.as ?_
        refine S.nil ?_
        refine TC.ret ?_
        refine finQ.ret (RVs.tmp (by conv => lhs; whnf) RVs.nil) (Sub.nil _) ?_
        refine ⟨congrArg Value.bool (decide_eq_false (p := rightO o) fun h => ?_).symm, rfl⟩
        rcases h with ⟨a1, a2, a3, a4, a5⟩ | ⟨a1, a2, a3, a4⟩ | ⟨a1, a2, a3, a4⟩ <;> first | omega | exact absurd a3 hi
    · refine S.as ?_
      refine S.nil ?_
      refine S.if_f rfl ?_
      refine TC.seq ?_
      refine TC.region ?_
      refine S.dec rfl rfl (Qt.eqi rfl rfl) (fun h50 => ?_) (fun h50 => ?_)
      · refine S.as ?_
        refine S.nil ?_
        refine S.if_t rfl ?_
        refine TC.seq ?_
        refine TC.region ?_
        refine S.q rfl rfl (Qt.field Tryz.underlying58 rfl Tryz.cells22 rfl) ?_
        refine S.q rfl rfl (Qt.load rfl (Ld.one (v := .slice A o.xs.length c) (Has.at 0 rfl) Tryz.one22 rfl)) ?_
        refine S.q rfl rfl (Qt.len_slice Tryz.underlying22 rfl) ?_
        refine S.q rfl rfl (Qt.field Tryz.underlying58 rfl Tryz.cells56 rfl) ?_
        refine S.q rfl rfl (Qt.load rfl (Ld.one (v := .slice B o.ss.length d) (Has.at 0 rfl) Tryz.one56 rfl)) ?_
        refine S.q rfl rfl (Qt.len_slice Tryz.underlying56 rfl) ?_
        refine S.q rfl rfl (Qt.add rfl rfl (by simp only [kmax]; omega)) ?_
        refine S.dec rfl rfl (Qt.eq (b := 0) rfl rfl) (fun h58 => ?_) (fun h58 => ?_)
        · refine S.mv ?_
          refine S.qg rfl rfl rfl (Qt.field Tryz.underlying58 rfl Tryz.cells40 rfl) ?_
          refine S.qg rfl rfl rfl (Qt.load rfl (Ld.one (v := .int .u64 (o.blocks : Int)) (Has.at 0 rfl) Tryz.one40 rfl)) ?_
          refine S.decg rfl rfl rfl (Qt.ge (b := 1) rfl rfl) (fun h62 => ?_) (fun h62 => ?_)
          · refine S.q rfl rfl (Qt.pick_t rfl (by conv => lhs; whnf)) ?_
            refine S.mv ?_
            refine S.qg rfl rfl rfl (Qt.field Tryz.underlying58 rfl Tryz.cells40 rfl) ?_
            refine S.qg rfl rfl rfl (Qt.load rfl (Ld.one (v := .int .u64 (o.blocks : Int)) (Has.at 0 rfl) Tryz.one40 rfl)) ?_
            refine S.decg rfl rfl rfl (Qt.le (b := 4294967296) rfl rfl) (fun h67 => ?_) (fun h67 => ?_)
            · refine S.q rfl rfl (Qt.pick_t rfl (by conv => lhs; whnf)) ?_
              refine S.as ?_
              refine S.nil ?_
              refine TC.ret ?_
              refine finQ.ret (RVs.tmp (by conv => lhs; whnf) RVs.nil) (Sub.nil _) ?_
              exact ⟨congrArg Value.bool (decide_eq_true (p := rightO o) (.inr (.inr ⟨h50, by omega, by omega, h62, h67⟩))).symm, rfl⟩
            · refine S.q rfl rfl (Qt.pick_t rfl (by conv => lhs; whnf)) ?_
              refine S.as ?_
              refine S.nil ?_
              refine TC.ret ?_
              refine finQ.ret (RVs.tmp (by conv => lhs; whnf) RVs.nil) (Sub.nil _) ?_
              refine ⟨congrArg Value.bool (decide_eq_false (p := rightO o) fun h => ?_).symm, rfl⟩
              rcases h with ⟨a1, a2, a3, a4, a5⟩ | ⟨a1, a2, a3, a4⟩ | ⟨a1, a2, a3, a4, a5⟩ <;> omega
          · refine S.q rfl rfl (Qt.pick_t rfl (by conv => lhs; whnf)) ?_
            refine S.mv ?_
            refine S.pass rfl rfl ?_
            refine S.pass rfl rfl ?_
            refine S.pass rfl rfl ?_
            refine S.q rfl rfl (Qt.pick_f rfl (by conv => lhs; whnf)) ?_
            refine S.as ?_
            refine S.nil ?_
            refine TC.ret ?_
            refine finQ.ret (RVs.tmp (by conv => lhs; whnf) RVs.nil) (Sub.nil _) ?_
            refine ⟨congrArg Value.bool (decide_eq_false (p := rightO o) fun h => ?_).symm, rfl⟩
            rcases h with ⟨a1, a2, a3, a4, a5⟩ | ⟨a1, a2, a3, a4⟩ | ⟨a1, a2, a3, a4, a5⟩ <;> omega
        · refine S.mv ?_
          refine S.pass rfl rfl ?_
          refine S.pass rfl rfl ?_
          refine S.pass rfl rfl ?_
          refine S.q rfl rfl (Qt.pick_f rfl (by conv => lhs; whnf)) ?_
          refine S.mv ?_
          refine S.pass rfl rfl ?_
          refine S.pass rfl rfl ?_
          refine S.pass rfl rfl ?_
          refine S.q rfl rfl (Qt.pick_f rfl (by conv => lhs; whnf)) ?_
          refine S.as ?_
          refine S.nil ?_
          refine TC.ret ?_
          refine finQ.ret (RVs.tmp (by conv => lhs; whnf) RVs.nil) (Sub.nil _) ?_
          refine ⟨congrArg Value.bool (decide_eq_false (p := rightO o) fun h => ?_).symm, rfl⟩
          rcases h with ⟨a1, a2, a3, a4, a5⟩ | ⟨a1, a2, a3, a4⟩ | ⟨a1, a2, a3, a4, a5⟩ <;> omega
      · refine S.as ?_
        refine S.nil ?_
        refine S.if_f rfl ?_
        refine TC.skip ?_
        refine TC.seq ?_
        refine TC.region ?_
        refine S.as ?_
        refine S.nil ?_
        refine TC.ret ?_
        refine finQ.ret (RVs.tmp (by conv => lhs; whnf) RVs.nil) (Sub.nil _) ?_
        refine ⟨congrArg Value.bool (decide_eq_false (p := rightO o) fun h => ?_).symm, rfl⟩
        rcases h with ⟨a1, a2, a3, a4, a5⟩ | ⟨a1, a2, a3, a4⟩ | ⟨a1, a2, a3, a4⟩ <;> omega
theorem right62_R (A : Option Addr) (c : Nat) (B : Option Addr) (d : Nat) (o : Order) (hss : o.ss.length ≤ 65536) (hxx : o.xs.length ≤ 65536) (w0 : World) (hlow : ∀ x ∈ o.xs, x < 18446744073709551616) (hR : Ro w0 [] (SlA A (u64s o.xs))) (hS : Ro w0 [] (SlA B (o.ss.flatMap sealL))) : Calls Tryz.prog 99 #[.agg (orderV A c B d o).toArray] w0 (Ret w0 (.bool (decide (rightO o)))) := Calls.ret (right62_walk A c B d o hss hxx w0 hlow hR hS)

set_option maxHeartbeats 400000 in
theorem fit64_walk (x : Nat) (nb n : Nat) (w0 : World) (hN : Ro w0 [] (Blk nb 40 [.int .u64 (n : Int)])) :
    Calls Tryz.prog 151 #[.int .u64 (x : Int), .pointer (some ⟨nb, 0, none⟩)] w0 (Post w0 [] fun v L => v = .bool (decide (n ≤ x)) ∧ L = []) := by
  refine Calls.of (L := []) (n := 7) (rs := [.tmp 3]) Tryz.func151 rfl rfl rfl (Nat.le_of_ble_eq_true rfl) (Sat.nil _) ?_
  refine TC.seq ?_
  refine TC.region ?_
  refine S.as ?_
  refine S.nil ?_
  refine TC.seq ?_
  refine TC.region ?_
  refine S.mv ?_
  refine S.q rfl rfl (Qt.load rfl (Ld.one (v := .int .u64 (n : Int)) (Has.ro hN) Tryz.one40 rfl)) ?_
  refine S.q rfl rfl (Qt.ge rfl rfl) ?_
  refine S.as ?_
  refine S.nil ?_
  refine TC.ret ?_
  refine finQ.ret (RVs.tmp (by conv => lhs; whnf) RVs.nil) (Sub.nil _) ?_
  exact ⟨rfl, rfl⟩
set_option maxHeartbeats 400000 in
theorem contU_walkT (fn : FuncId) (cp : Array Value) (q : Nat → Bool) (hent : Enters Tryz.prog fn) (A : Option Addr) (c : Nat) (xs : List Nat) (hn : xs.length ≤ 256) (hq : ∃ s ∈ xs, q s = true) (w0 : World) (hR : Ro w0 [] (SlA A (u64s xs))) (hf : ∀ x ∈ xs, ∀ w, St w0 [] [] w → Calls Tryz.prog fn ((([.int .u64 (x : Int)] : List Value) ++ cp.toList).toArray) w (Ret w (.bool (q x)))) :
    Calls Tryz.prog 150 #[.slice A xs.length c, .func (.func fn) #[] cp] w0 (Post w0 [] fun v L => v = .bool true ∧ L = []) := by
  refine Calls.of (L := []) (n := 9) (rs := [.tmp 4]) Tryz.func150 rfl rfl rfl (Nat.le_of_ble_eq_true rfl) (Sat.nil _) ?_
  refine TC.seq ?_
  refine TC.region ?_
  refine S.as ?_
  refine S.nil ?_
  refine TC.seq ?_
  refine TC.region ?_
  refine S.mv ?_
  refine S.mv ?_
  refine S.opS rfl rfl (OpV.con (Pre := []) (R := _) Tryz.ent191 rfl (List.Perm.refl _) (fun w hw => idxf_walk fn cp q hent A c xs hn w (Rd.ro hR w hw) (fun x hx w1 s1 => hf x hx w1 ((hw.sub (Sub.nil _)).after0 s1))) ?_)
  rintro v L' ⟨z, rfl, rfl, hz⟩
  refine S.q rfl rfl (Qt.dT (Qt.gei rfl rfl) (Int.not_lt.1 (fun h => by obtain ⟨s, h1, h2⟩ := hq; obtain ⟨j, hj, rfl⟩ := List.mem_iff_getElem.1 h1; have h3 := hz.1 h j hj; rw [getD_eq 0 hj, h2] at h3; cases h3))) ?_
  refine S.as ?_
  refine S.nil ?_
  refine TC.ret ?_
  refine finQ.ret (RVs.tmp (by conv => lhs; whnf) RVs.nil) (Sub.nil _) ?_
  exact ⟨rfl, rfl⟩
theorem contUT_R (fn : FuncId) (cp : Array Value) (q : Nat → Bool) (hent : Enters Tryz.prog fn) (A : Option Addr) (c : Nat) (xs : List Nat) (hn : xs.length ≤ 256) (hq : ∃ s ∈ xs, q s = true) (w0 : World) (hR : Ro w0 [] (SlA A (u64s xs))) (hf : ∀ x ∈ xs, ∀ w, St w0 [] [] w → Calls Tryz.prog fn ((([.int .u64 (x : Int)] : List Value) ++ cp.toList).toArray) w (Ret w (.bool (q x)))) : Calls Tryz.prog 150 #[.slice A xs.length c, .func (.func fn) #[] cp] w0 (Ret w0 (.bool true)) := Calls.ret (contU_walkT fn cp q hent A c xs hn hq w0 hR hf)

set_option maxHeartbeats 400000 in
theorem contU_walkF (fn : FuncId) (cp : Array Value) (q : Nat → Bool) (hent : Enters Tryz.prog fn) (A : Option Addr) (c : Nat) (xs : List Nat) (hn : xs.length ≤ 256) (hq : ∀ s ∈ xs, q s = false) (w0 : World) (hR : Ro w0 [] (SlA A (u64s xs))) (hf : ∀ x ∈ xs, ∀ w, St w0 [] [] w → Calls Tryz.prog fn ((([.int .u64 (x : Int)] : List Value) ++ cp.toList).toArray) w (Ret w (.bool (q x)))) :
    Calls Tryz.prog 150 #[.slice A xs.length c, .func (.func fn) #[] cp] w0 (Post w0 [] fun v L => v = .bool false ∧ L = []) := by
  refine Calls.of (L := []) (n := 9) (rs := [.tmp 4]) Tryz.func150 rfl rfl rfl (Nat.le_of_ble_eq_true rfl) (Sat.nil _) ?_
  refine TC.seq ?_
  refine TC.region ?_
  refine S.as ?_
  refine S.nil ?_
  refine TC.seq ?_
  refine TC.region ?_
  refine S.mv ?_
  refine S.mv ?_
  refine S.opS rfl rfl (OpV.con (Pre := []) (R := _) Tryz.ent191 rfl (List.Perm.refl _) (fun w hw => idxf_walk fn cp q hent A c xs hn w (Rd.ro hR w hw) (fun x hx w1 s1 => hf x hx w1 ((hw.sub (Sub.nil _)).after0 s1))) ?_)
  rintro v L' ⟨z, rfl, rfl, hz⟩
  refine S.q rfl rfl (Qt.dF (Qt.gei rfl rfl) (fun h => by obtain ⟨j, h1, h2, h3, h4⟩ := hz.2 (Int.not_lt.2 h); rw [hq _ (getD_mem 0 h2)] at h4; cases h4)) ?_
  refine S.as ?_
  refine S.nil ?_
  refine TC.ret ?_
  refine finQ.ret (RVs.tmp (by conv => lhs; whnf) RVs.nil) (Sub.nil _) ?_
  exact ⟨rfl, rfl⟩
theorem contUF_R (fn : FuncId) (cp : Array Value) (q : Nat → Bool) (hent : Enters Tryz.prog fn) (A : Option Addr) (c : Nat) (xs : List Nat) (hn : xs.length ≤ 256) (hq : ∀ s ∈ xs, q s = false) (w0 : World) (hR : Ro w0 [] (SlA A (u64s xs))) (hf : ∀ x ∈ xs, ∀ w, St w0 [] [] w → Calls Tryz.prog fn ((([.int .u64 (x : Int)] : List Value) ++ cp.toList).toArray) w (Ret w (.bool (q x)))) : Calls Tryz.prog 150 #[.slice A xs.length c, .func (.func fn) #[] cp] w0 (Ret w0 (.bool false)) := Calls.ret (contU_walkF fn cp q hent A c xs hn hq w0 hR hf)

set_option maxHeartbeats 800000 in
theorem fits39_walk (A : Option Addr) (c : Nat) (B : Option Addr) (d : Nat) (o : Order) (hss : o.ss.length ≤ 65536) (hxx : o.xs.length ≤ 65536) (n : Nat) (w0 : World) (hlow : ∀ x ∈ o.xs, x < 18446744073709551616) (hR : Ro w0 [] (SlA A (u64s o.xs))) (hS : Ro w0 [] (SlA B (o.ss.flatMap sealL))) :
    Calls Tryz.prog 93 #[.agg (orderV A c B d o).toArray, .int .u64 (n : Int)] w0 (Post w0 [] fun v L => v = .bool (decide (fitsO o n)) ∧ L = []) := by
  refine Calls.of (L := []) (n := 14) (rs := [.tmp 4]) Tryz.func93 rfl rfl rfl (Nat.le_of_ble_eq_true rfl) (Sat.nil _) ?_
  refine TC.seq ?_
  refine TC.region ?_
  refine S.opS rfl rfl (OpV.box (v := .agg (orderV A c B d o).toArray) rfl (fun b2 => ?_))
  refine S.opS rfl rfl (OpV.box (v := .int .u64 (n : Int)) rfl (fun b3 => ?_))
  refine S.as ?_
  refine S.nil ?_
  refine TC.seq ?_
  refine TC.region ?_
  refine S.q rfl rfl (Qt.load rfl (Ld.all (vs := (orderV A c B d o)) (Has.at 1 rfl) Tryz.row58 Tryz.cells58)) ?_
  by_cases hr : rightO o
  · refine S.opS rfl rfl (OpV.con0 Tryz.ent99 rfl (fun w hw => (by have h := right62_R A c B d o hss hxx w hlow (Rd.ro hR w hw) (Rd.ro hS w hw); rw [decide_eq_true hr] at h; exact h : Calls Tryz.prog 99 #[.agg (orderV A c B d o).toArray] w (Ret w (.bool true)))) ?_)
    refine S.mv ?_
    refine S.qg rfl rfl rfl (Qt.field Tryz.underlying58 rfl Tryz.cells22 rfl) ?_
    refine S.qg rfl rfl rfl (Qt.load rfl (Ld.one (v := .slice A o.xs.length c) (Has.at 1 rfl) Tryz.one22 rfl)) ?_
    refine S.qg rfl rfl rfl (Qt.makeFuncL (fs := []) (cs := [.pointer (some ⟨b3, 0, none⟩)]) rfl rfl) ?_
    by_cases hany : ∃ x ∈ o.xs, decide (n ≤ x) = true
    · refine S.opg rfl rfl rfl (OpV.con0 Tryz.ent150 rfl (fun w hw => contUT_R 151 #[.pointer (some ⟨b3, 0, none⟩)] (fun x => decide (n ≤ x)) Tryz.ent151 A c o.xs (right_small hr) hany w (Rd.ro hR w hw) (fun x hx w1 s1 => Calls.ret (fit64_walk x b3 n w1 ((Rd.at 0 rfl w hw).go s1 (fun b hb => by cases hb))))) ?_)
      refine S.qg rfl rfl rfl (Qt.not_t rfl) ?_
      refine S.q rfl rfl (Qt.pick_t rfl (by conv => lhs; whnf)) ?_
      refine S.as ?_
      refine S.nil ?_
      refine TC.ret ?_
      refine finQ.ret (RVs.tmp (by conv => lhs; whnf) RVs.nil) (Sub.nil _) ?_
      exact ⟨congrArg Value.bool (decide_eq_false (p := fitsO o n) (fun h => by obtain ⟨x, h1, h2⟩ := hany; have := h.2 x h1; have := of_decide_eq_true h2; omega)).symm, rfl⟩
    · refine S.opg rfl rfl rfl (OpV.con0 Tryz.ent150 rfl (fun w hw => contUF_R 151 #[.pointer (some ⟨b3, 0, none⟩)] (fun x => decide (n ≤ x)) Tryz.ent151 A c o.xs (right_small hr) (fun s hs => Bool.eq_false_iff.2 (fun e => hany ⟨s, hs, e⟩)) w (Rd.ro hR w hw) (fun x hx w1 s1 => Calls.ret (fit64_walk x b3 n w1 ((Rd.at 0 rfl w hw).go s1 (fun b hb => by cases hb))))) ?_)
      refine S.qg rfl rfl rfl (Qt.not_f rfl) ?_
      refine S.q rfl rfl (Qt.pick_t rfl (by conv => lhs; whnf)) ?_
      refine S.as ?_
      refine S.nil ?_
      refine TC.ret ?_
      refine finQ.ret (RVs.tmp (by conv => lhs; whnf) RVs.nil) (Sub.nil _) ?_
      exact ⟨congrArg Value.bool (decide_eq_true (p := fitsO o n) ⟨hr, fun x hx => Nat.lt_of_not_le (fun h => hany ⟨x, hx, decide_eq_true h⟩)⟩).symm, rfl⟩
  · refine S.opS rfl rfl (OpV.con0 Tryz.ent99 rfl (fun w hw => (by have h := right62_R A c B d o hss hxx w hlow (Rd.ro hR w hw) (Rd.ro hS w hw); rw [decide_eq_false hr] at h; exact h : Calls Tryz.prog 99 #[.agg (orderV A c B d o).toArray] w (Ret w (.bool false)))) ?_)
    refine S.mv ?_
    refine S.pass rfl rfl ?_
    refine S.pass rfl rfl ?_
    refine S.pass rfl rfl ?_
    refine S.pass rfl rfl ?_
    refine S.pass rfl rfl ?_
    refine S.q rfl rfl (Qt.pick_f rfl (by conv => lhs; whnf)) ?_
    refine S.as ?_
    refine S.nil ?_
    refine TC.ret ?_
    refine finQ.ret (RVs.tmp (by conv => lhs; whnf) RVs.nil) (Sub.nil _) ?_
    exact ⟨congrArg Value.bool (decide_eq_false (p := fitsO o n) (fun h => hr h.1)).symm, rfl⟩
theorem fits39_R (A : Option Addr) (c : Nat) (B : Option Addr) (d : Nat) (o : Order) (hss : o.ss.length ≤ 65536) (hxx : o.xs.length ≤ 65536) (n : Nat) (w0 : World) (hlow : ∀ x ∈ o.xs, x < 18446744073709551616) (hR : Ro w0 [] (SlA A (u64s o.xs))) (hS : Ro w0 [] (SlA B (o.ss.flatMap sealL))) : Calls Tryz.prog 93 #[.agg (orderV A c B d o).toArray, .int .u64 (n : Int)] w0 (Ret w0 (.bool (decide (fitsO o n)))) := Calls.ret (fits39_walk A c B d o hss hxx n w0 hlow hR hS)

end Go.Proofs.YtgdjcmehlhebdaaGreatDoor
