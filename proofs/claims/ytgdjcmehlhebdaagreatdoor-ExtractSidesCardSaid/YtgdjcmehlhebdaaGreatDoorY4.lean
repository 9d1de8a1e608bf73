/-
  Walks: the nodes of a proof. Printed by a program of ours. Walks: the proof of a tree's indices. Printed by a program of ours.
-/
import Derived.Test.YtgdjcmehlhebdaaGreatDoorYZFX
import Derived.Test.YtgdjcmehlhebdaaGreatDoorP1
namespace Go.Proofs.YtgdjcmehlhebdaaGreatDoor
open Go.E
set_option linter.unusedVariables false
set_option maxRecDepth 4000


set_option maxHeartbeats 400000 in
theorem split1_walk (l p x lb pb : Nat) (hl : l < 32) (hp : p < 4294967296) (hx : x < 18446744073709551616) (w0 : World) (hV : Ro w0 [] (Blk lb 3 [.int .i64 ((l + 1 : Nat) : Int)])) (hP : Ro w0 [] (Blk pb 40 [.int .u64 (p : Int)])) :
    Calls Tryz.prog 204 #[.int .u64 (x : Int), .pointer (some ⟨lb, 0, none⟩), .pointer (some ⟨pb, 0, none⟩)] w0 (Post w0 [] fun v L => v = .bool (decide (x / 2 ^ l ≠ 2 * p)) ∧ L = []) := by
  refine Calls.of (L := []) (n := 12) (rs := [.tmp 4]) Tryz.func204 rfl rfl rfl (Nat.le_of_ble_eq_true rfl) (Sat.nil _) ?_
  refine TC.seq ?_
  refine TC.region ?_
  refine S.as ?_
  refine S.nil ?_
  refine TC.seq ?_
  refine S.draw ([], []) Tryz.mixed (Sub.refl _) ?_
  refine D.qY 0 rfl (Qt.move (by conv => lhs; whnf)) ?_
  refine D.qY 1 rfl (Qt.load rfl (Ld.one (Has.ro hV) Tryz.one3 (rfl))) ?_
  refine D.qY 2 rfl (Qt.as (Qt.sub (a := l + 1) (b := 1) rfl rfl (by omega) (by simp only [kmax]; omega)) (by rw [Nat.add_sub_cancel])) ?_
  refine D.qY 3 rfl (Qt.shrN rfl rfl (by simp only [kmax]; omega)) ?_
  refine D.qY 4 rfl (Qt.load rfl (Ld.one (Has.ro hP) Tryz.one40 (rfl))) ?_
  refine D.qY 5 rfl (Qt.mul (a := 2) rfl rfl (by simp only [kmax]; omega)) ?_
  refine D.qY 6 rfl (Qt.ne rfl rfl) ?_
  refine D.qY 7 rfl (Qt.assign (by conv => lhs; whnf)) ?_
  refine D.done (Sub.refl _) (by kernel_rfl) ?_
  refine TC.ret ?_
  refine finQ.ret (RVs.tmp (by conv => lhs; whnf) RVs.nil) (Sub.nil _) ?_
  exact ⟨rfl, rfl⟩
set_option maxHeartbeats 400000 in
theorem idxf_walk (fn : FuncId) (cp : Array Value) (q : Nat → Bool) (hent : Enters Tryz.prog fn) (A : Option Addr) (c : Nat) (xs : List Nat) (hn : xs.length ≤ 256) (w0 : World) (hR : Ro w0 [] (SlA A (u64s xs))) (hf : ∀ x ∈ xs, ∀ w, St w0 [] [] w → Calls Tryz.prog fn ((([.int .u64 (x : Int)] : List Value) ++ cp.toList).toArray) w (Ret w (.bool (q x)))) :
    Calls Tryz.prog 191 #[.slice A xs.length c, .func (.func fn) #[] cp] w0 (Post w0 [] fun v L => ∃ z : Int, v = .int .i64 z ∧ L = [] ∧ FoundI xs q z) := by
  refine Calls.of (L := []) (n := 19) (rs := [.tmp 4]) Tryz.func191 rfl rfl rfl (Nat.le_of_ble_eq_true rfl) (Sat.nil _) ?_
  refine TC.seq ?_
  refine TC.region ?_
  refine S.as ?_
  refine S.nil ?_
  refine TC.seq ?_
  refine TC.seq ?_
  refine TC.region ?_
  refine S.mv ?_
  refine S.q rfl rfl (Qt.len_slice Tryz.underlying22 rfl) ?_
  refine S.mv ?_
  refine S.nil ?_
  refine TC.block ?_
  refine TC.loop (γ := Nat) [9, 10, 5, 11, 12, 13, 14, 15, 16, 17, 4, 18, 8] (fun k => [(8, .int .i64 (k : Int))]) (fun _ => _) (fun k => k ≤ xs.length ∧ ∀ j, j < k → q (xs.getD j 0) = false) (fun k => xs.length - k) (0)
    ⟨Nat.zero_le _, fun j h => absurd h (Nat.not_lt_zero _)⟩ ⟨Out.refl _ _, (List.forall_mem_cons.2 ⟨rfl, (fun _ h => nomatch h)⟩)⟩ (Sub.refl _) ?_
  rintro k u ⟨hk, hq⟩
  refine TC.seq ?_
  refine TC.region ?_
  refine S.dec rfl rfl (Qt.lt rfl rfl) (fun h9 => ?_) (fun h9 => ?_)
  · refine S.nil ?_
    refine TC.seq ?_
    refine S.if_t rfl ?_
    refine TC.skip ?_
    refine TC.seq ?_
    refine TC.block ?_
    refine TC.seq ?_
    refine TC.region ?_
    refine S.mv ?_
    refine S.as ?_
    refine S.nil ?_
    refine TC.seq ?_
    refine TC.region ?_
    refine S.mv ?_
    refine S.mv ?_
    refine S.mv ?_
    refine S.q rfl rfl (Qt.index Tryz.underlying22 Tryz.cells40 rfl rfl (by omega) (Has.ro hR) (by rw [u64s_len]; omega)) ?_
    refine S.q rfl rfl (Qt.load rfl (Ld.sl (v := .int .u64 ((xs.getD k 0 : Nat) : Int)) (Has.ro hR) Tryz.one40 (u64s_get1 h9))) ?_
    refine S.opS rfl rfl (OpV.con0 hent rfl (fun w hw => hf _ (getD_mem 0 h9) w hw) ?_)
    refine S.nil ?_
    refine TC.ifb rfl (fun b16 => ?_) (fun b16 => ?_)
    · refine TC.seq ?_
      refine TC.region ?_
      refine S.mv ?_
      refine S.as ?_
      refine S.nil ?_
      refine TC.ret ?_
      refine finQ.ret (RVs.tmp (by conv => lhs; whnf) RVs.nil) (Sub.nil _) ?_
      exact ⟨_, rfl, rfl, fun h => by omega, fun _ => ⟨k, rfl, h9, hq, b16⟩⟩
    · refine TC.skip ?_
      refine TC.region ?_
      refine S.q rfl rfl (Qt.add (b := 1) rfl rfl (by simp only [kmax]; omega)) ?_
      refine S.mv ?_
      refine S.nil ?_
      refine ⟨k + 1, ?_, ?_, ⟨?_, (List.forall_mem_cons.2 ⟨rfl, (fun _ h => nomatch h)⟩)⟩, Sub.refl _⟩
      · exact ⟨by show _ ≤ _; omega, fun j hj => (Nat.lt_or_ge j k).elim (hq j) (fun h => by (obtain rfl : j = k := by omega); exact b16)⟩
      · show _ < _; dsimp only; omega
      repeat (first | exact Out.refl _ _ | refine Out.put rfl ?_ | refine Out.puts rfl ?_ | refine Out.scr ?_ | refine Out.scr' rfl ?_)
  · refine S.nil ?_
    refine TC.seq ?_
    refine S.if_f rfl ?_
    refine TC.exit ?_
    refine TC.seq ?_
    refine TC.region ?_
    refine S.as ?_
    refine S.nil ?_
    refine TC.ret ?_
    refine finQ.ret (RVs.tmp (by conv => lhs; whnf) RVs.nil) (Sub.nil _) ?_
    exact ⟨_, rfl, rfl, fun _ j hj => hq j (by omega), fun h => absurd (by decide) h⟩
set_option maxHeartbeats 400000 in
theorem split_walk (height l p : Nat) (hh : height ≤ 32) (ho : okAt height (l + 1, p)) (A : Option Addr) (c : Nat) (xs : List Nat) (hs : xs.Pairwise (· < ·)) (hx : ∀ x ∈ xs, x / 2 ^ (l + 1) = p) (hc : xs.length ≤ c) (hn : xs.length ≤ 256) (w0 : World) (hR : Ro w0 [] (SlA A (u64s xs))) :
    Calls Tryz.prog 187 #[.slice A xs.length c, .int .i64 ((l + 1 : Nat) : Int), .int .u64 (p : Int)] w0 (Post w0 [] fun v L => ∃ A' c', v = .tuple #[.slice A (cutN xs l (2 * p)).length c, .slice A' (cutN xs l (2 * p + 1)).length c'] ∧ L = [] ∧ (cutN xs l (2 * p + 1)).length ≤ c' ∧ ∀ w M, Ro w M (SlA A (u64s xs)) → Ro w M (SlA A (u64s (cutN xs l (2 * p)))) ∧ Ro w M (SlA A' (u64s (cutN xs l (2 * p + 1))))) := by
  refine Calls.of (L := []) (n := 21) (rs := [.tmp 6, .tmp 7]) Tryz.func187 rfl rfl rfl (Nat.le_of_ble_eq_true rfl) (Sat.nil _) ?_
  obtain ⟨hl32, hp32⟩ := okAt_lt hh ho
  refine TC.seq ?_
  refine TC.region ?_
  refine S.opS rfl rfl (OpV.box (v := .int .i64 ((l + 1 : Nat) : Int)) rfl (fun b4 => ?_))
  refine S.opS rfl rfl (OpV.box (v := .int .u64 (p : Int)) rfl (fun b5 => ?_))
  refine S.as ?_
  refine S.as ?_
  refine S.nil ?_
  refine TC.seq ?_
  refine TC.region ?_
  refine S.mv ?_
  refine S.q rfl rfl (Qt.makeFuncL (fs := []) (cs := [.pointer (some ⟨b4, 0, none⟩), .pointer (some ⟨b5, 0, none⟩)]) rfl rfl) ?_
  refine S.opS rfl rfl (OpV.con (Pre := []) (R := _) Tryz.ent191 rfl (List.Perm.refl _) (fun w hw => idxf_walk 204 #[.pointer (some ⟨b4, 0, none⟩), .pointer (some ⟨b5, 0, none⟩)] (fun x => decide (x / 2 ^ l ≠ 2 * p)) Tryz.ent204 A c xs hn w (Rd.ro hR w hw) (fun x hm w' hw' => Calls.ret (split1_walk l p x b4 b5 (by omega) hp32 (by have := below_u64 hh ho (hx x hm); omega) w' ((Rd.at 1 rfl w hw).go hw' (fun b hb => by cases hb)) ((Rd.at 0 rfl w hw).go hw' (fun b hb => by cases hb))))) ?_)
  rintro v L' ⟨z, rfl, rfl, hz⟩
  refine S.as ?_
  refine S.nil ?_
  refine TC.seq ?_
  refine TC.seq ?_
  refine TC.region ?_
  refine S.mv ?_
  refine S.dec rfl rfl (Qt.lti rfl rfl) (fun h13 => ?_) (fun h13 => ?_)
  · refine S.nil ?_
    refine S.if_t rfl ?_
    refine TC.seq ?_
    refine TC.region ?_
    refine S.mv ?_
    refine S.as ?_
    refine S.as ?_
    refine S.nil ?_
    refine TC.ret ?_
    refine finQ.ret (RVs.tmp (by conv => lhs; whnf) (RVs.tmp (by conv => lhs; whnf) RVs.nil)) (Sub.nil _) ?_
    obtain ⟨e1, e2⟩ := split_at (i := xs.length) hs hx (fun j hj => Decidable.not_not.1 (of_decide_eq_false (hz.no h13 j hj))) (fun h => absurd h (Nat.lt_irrefl _))
    rw [List.take_length] at e1
    rw [List.drop_length] at e2
    exact ⟨none, 0, by rw [← e1, ← e2]; rfl, rfl, by rw [← e2]; exact Nat.le_refl _, fun w M h => by rw [← e1, ← e2]; exact ⟨h, Ro.slnil w M none⟩⟩
  · refine S.nil ?_
    refine S.if_f rfl ?_
    refine TC.skip ?_
    refine TC.seq ?_
    refine S.draw ([], []) Tryz.mixed (Sub.nil _) ?_
    obtain ⟨i, rfl, hi, hq1, hq2⟩ := hz.yes h13
    obtain ⟨e1, e2⟩ := split_at (i := i) hs hx (fun j hj => Decidable.not_not.1 (of_decide_eq_false (hq1 j hj))) (fun _ => of_decide_eq_true hq2)
    have hi2 : (xs.take i).length = i := by rw [List.length_take]; omega
    refine D.qY 0 rfl (Qt.move (by conv => lhs; whnf)) ?_
    refine D.qY 1 rfl (Qt.move (by conv => lhs; whnf)) ?_
    refine D.qY 2 rfl (Qt.slice_hi Tryz.underlying22 Tryz.cells40 rfl rfl (by omega)) ?_
    refine D.qY 3 rfl (Qt.move (by conv => lhs; whnf)) ?_
    refine D.qY 4 rfl (Qt.move (by conv => lhs; whnf)) ?_
    refine D.qY 5 rfl (Qt.slice_lo Tryz.underlying22 Tryz.cells40 rfl rfl (by omega)) ?_
    refine D.qY 6 rfl (Qt.assign (by conv => lhs; whnf)) ?_
    refine D.qY 7 rfl (Qt.assign (by conv => lhs; whnf)) ?_
    refine D.done (Sub.nil _) (by kernel_rfl) ?_
    refine TC.ret ?_
    refine finQ.ret (RVs.tmp (by conv => lhs; whnf) (RVs.tmp (by conv => lhs; whnf) RVs.nil)) (Sub.nil _) ?_
    exact ⟨if c = i then A else A.map (·.add (i * 1)), c - i, by rw [← e1, ← e2, hi2, List.length_drop]; rfl, rfl, by rw [← e2, List.length_drop]; omega, fun w M h => by
        rw [← e1, ← e2, ← u64s_take, ← u64s_drop]
        exact ⟨h.take i, by have h2 := h.cut (c := c) (l := i) (k := i) (fun e => by rw [u64s_len]; omega); rw [Nat.mul_one]; exact h2⟩⟩
set_option maxHeartbeats 400000 in
theorem bes_walkE (fn : FuncId) (cp : Array Value) (hent : Enters Tryz.prog fn) (height : Nat) (hh : height ≤ 32) (J : Sd → List Assn → Prop) (W : World) (M : List Nat) (B : Nat) (hf : FndC Tryz.prog fn cp height J W M B) (l : Nat) (p : Nat) (xs : List Nat) (A : Option Addr) (c : Nat) (done : Sd) (L0 : List Assn) (w0 : World) (ho : okAt height (l, p)) (hs : xs.Pairwise (· < ·)) (hx : ∀ x ∈ xs, x / 2 ^ (l) = p) (hc : xs.length ≤ c) (hn : xs.length ≤ 256) (h0 : Sat w0 L0) (hR : Ro w0 (fps L0) (SlA A (u64s xs))) (hJ : J done L0) (hst : St W M L0 w0) (hB : done.length + (spots (l) xs p).length ≤ B) (he : xs = []) :
    Calls Tryz.prog 139 #[.slice A xs.length c, .int .i64 ((l : Nat) : Int), .int .u64 (p : Int), .func (.func fn) #[] cp] w0 (Post w0 (fps L0) fun v L => J (done ++ spots (l) xs p) L) := by
  refine Calls.of (L := L0) (n := 43) (rs := []) Tryz.func139 rfl rfl rfl (Nat.le_of_ble_eq_true rfl) (h0) ?_
  subst he
  rw [spots_nil, List.length_singleton] at hB
  rw [spots_nil]
  refine TC.block ?_
  refine TC.seq ?_
  refine TC.region ?_
  refine S.mv ?_
  refine S.q rfl rfl (Qt.len_slice Tryz.underlying22 rfl) ?_
  refine S.q rfl rfl (Qt.dT (Qt.eq (b := 0) rfl rfl) (rfl)) ?_
  refine S.as ?_
  refine S.nil ?_
  refine S.if_t rfl ?_
  refine TC.region ?_
  refine S.mv ?_
  refine S.mv ?_
  refine S.mv ?_
  refine S.opS rfl rfl (OpV.con (Pre := L0) (R := []) hent rfl ((perm_app _)) (fun w hw => hf (l, p) done L0 w ho (by omega) hJ (hst.next (st_app hw))) ?_)
  rintro v L1 hJ1
  rw [List.append_nil]
  refine S.nil ?_
  refine finQ.normal RVs.nil (Sub.refl _) ?_
  exact hJ1
set_option maxHeartbeats 400000 in
theorem bes_walk0 (fn : FuncId) (cp : Array Value) (hent : Enters Tryz.prog fn) (height : Nat) (hh : height ≤ 32) (J : Sd → List Assn → Prop) (W : World) (M : List Nat) (B : Nat) (hf : FndC Tryz.prog fn cp height J W M B) (p : Nat) (xs : List Nat) (A : Option Addr) (c : Nat) (done : Sd) (L0 : List Assn) (w0 : World) (ho : okAt height (0, p)) (hs : xs.Pairwise (· < ·)) (hx : ∀ x ∈ xs, x / 2 ^ (0) = p) (hc : xs.length ≤ c) (hn : xs.length ≤ 256) (h0 : Sat w0 L0) (hR : Ro w0 (fps L0) (SlA A (u64s xs))) (hJ : J done L0) (hst : St W M L0 w0) (hB : done.length + (spots (0) xs p).length ≤ B) (he : xs ≠ []) :
    Calls Tryz.prog 139 #[.slice A xs.length c, .int .i64 ((0 : Nat) : Int), .int .u64 (p : Int), .func (.func fn) #[] cp] w0 (Post w0 (fps L0) fun v L => J (done ++ spots (0) xs p) L) := by
  refine Calls.of (L := L0) (n := 43) (rs := []) Tryz.func139 rfl rfl rfl (Nat.le_of_ble_eq_true rfl) (h0) ?_
  have hpos := List.length_pos_iff.2 he
  refine TC.block ?_
  refine TC.seq ?_
  refine TC.region ?_
  refine S.mv ?_
  refine S.q rfl rfl (Qt.len_slice Tryz.underlying22 rfl) ?_
  refine S.q rfl rfl (Qt.dF (Qt.eq (b := 0) rfl rfl) (by omega)) ?_
  refine S.as ?_
  refine S.nil ?_
  refine S.if_f rfl ?_
  refine TC.seq ?_
  refine TC.region ?_
  refine S.mv ?_
  refine S.q rfl rfl (Qt.dF (Qt.gt (b := 0) rfl rfl) (by omega)) ?_
  refine S.as ?_
  refine S.nil ?_
  refine S.if_f rfl ?_
  refine TC.skip ?_
  refine finQ.normal RVs.nil (Sub.refl _) ?_
  rw [spots_zero he, List.append_nil]
  exact hJ
set_option maxHeartbeats 800000 in
theorem bes_walkS (fn : FuncId) (cp : Array Value) (hent : Enters Tryz.prog fn) (height : Nat) (hh : height ≤ 32) (J : Sd → List Assn → Prop) (W : World) (M : List Nat) (B : Nat) (hf : FndC Tryz.prog fn cp height J W M B) (l : Nat) (hrec : BesC Tryz.prog 139 fn cp height J W M B l) (p : Nat) (xs : List Nat) (A : Option Addr) (c : Nat) (done : Sd) (L0 : List Assn) (w0 : World) (ho : okAt height (l + 1, p)) (hs : xs.Pairwise (· < ·)) (hx : ∀ x ∈ xs, x / 2 ^ (l + 1) = p) (hc : xs.length ≤ c) (hn : xs.length ≤ 256) (h0 : Sat w0 L0) (hR : Ro w0 (fps L0) (SlA A (u64s xs))) (hJ : J done L0) (hst : St W M L0 w0) (hB : done.length + (spots (l + 1) xs p).length ≤ B) (he : xs ≠ []) :
    Calls Tryz.prog 139 #[.slice A xs.length c, .int .i64 ((l + 1 : Nat) : Int), .int .u64 (p : Int), .func (.func fn) #[] cp] w0 (Post w0 (fps L0) fun v L => J (done ++ spots (l + 1) xs p) L) := by
  refine Calls.of (L := L0) (n := 43) (rs := []) Tryz.func139 rfl rfl rfl (Nat.le_of_ble_eq_true rfl) (h0) ?_
  have hpos := List.length_pos_iff.2 he
  obtain ⟨hl32, hp32⟩ := okAt_lt hh ho
  obtain ⟨okl, okr⟩ := okAt_kids ho
  rw [spots_succ he, List.length_append] at hB
  rw [spots_succ he, ← List.append_assoc]
  have hcl := cutN_len xs l (2 * p)
  have hcr := cutN_len xs l (2 * p + 1)
  refine TC.block ?_
  refine TC.seq ?_
  refine TC.region ?_
  refine S.mv ?_
  refine S.q rfl rfl (Qt.len_slice Tryz.underlying22 rfl) ?_
  refine S.q rfl rfl (Qt.dF (Qt.eq (b := 0) rfl rfl) (by omega)) ?_
  refine S.as ?_
  refine S.nil ?_
  refine S.if_f rfl ?_
  refine TC.seq ?_
  refine TC.region ?_
  refine S.mv ?_
  refine S.q rfl rfl (Qt.dT (Qt.gt (b := 0) rfl rfl) (by omega)) ?_
  refine S.as ?_
  refine S.nil ?_
  refine S.if_t rfl ?_
  refine TC.seq ?_
  refine TC.region ?_
  refine S.mv ?_
  refine S.mv ?_
  refine S.mv ?_
  refine S.opS rfl rfl (OpV.con (Pre := []) (R := _) Tryz.ent187 rfl (List.Perm.refl _) (fun w hw => split_walk height l p hh ho A c xs hs hx hc hn w (Rd.ro hR w hw)) ?_)
  rintro v L' ⟨A', c', rfl, rfl, hc', hro⟩
  refine S.mv ?_
  refine S.q rfl rfl (Qt.extract rfl rfl) ?_
  refine S.q rfl rfl (Qt.extract rfl rfl) ?_
  refine S.as ?_
  refine S.as ?_
  refine S.nil ?_
  refine TC.seq ?_
  refine TC.region ?_
  refine S.mv ?_
  refine S.mv ?_
  refine S.q rfl rfl (Qt.as (Qt.sub (a := l + 1) (b := 1) rfl rfl (by omega) (by simp only [kmax]; omega)) (by rw [Nat.add_sub_cancel])) ?_
  refine S.mv ?_
  refine S.q rfl rfl (Qt.mul (a := 2) rfl rfl (by simp only [kmax]; omega)) ?_
  refine S.mv ?_
  refine S.opS rfl rfl (OpV.con (Pre := L0) (R := []) Tryz.ent139 rfl ((perm_app _)) (fun w hw => hrec (2 * p) (cutN xs l (2 * p)) A c done L0 w okl (cutN_rise hs) cutN_mem (by omega) (by omega) (st_app hw).sat (hro w _ (Ro.of_pre hw hR)).1 hJ (hst.next (st_app hw)) (by omega)) ?_)
  rintro v L1 hJ1
  rw [List.append_nil]
  refine S.nil ?_
  refine TC.region ?_
  refine S.mv ?_
  refine S.mv ?_
  refine S.q rfl rfl (Qt.as (Qt.sub (a := l + 1) (b := 1) rfl rfl (by omega) (by simp only [kmax]; omega)) (by rw [Nat.add_sub_cancel])) ?_
  refine S.mv ?_
  refine S.q rfl rfl (Qt.mul (a := 2) rfl rfl (by simp only [kmax]; omega)) ?_
  refine S.q rfl rfl (Qt.add (b := 1) rfl rfl (by simp only [kmax]; omega)) ?_
  refine S.mv ?_
  refine S.opS rfl rfl (OpV.con (Pre := L1) (R := []) Tryz.ent139 rfl ((perm_app _)) (fun w hw => hrec (2 * p + 1) (cutN xs l (2 * p + 1)) A' c' (done ++ spots l (cutN xs l (2 * p)) (2 * p)) L1 w okr (cutN_rise hs) cutN_mem hc' (by omega) (st_app hw).sat (hro w _ (Ro.of_pre hw hR)).2 hJ1 (hst.next (st_app hw)) (by rw [List.length_append]; omega)) ?_)
  rintro v L2 hJ2
  rw [List.append_nil]
  refine S.nil ?_
  refine finQ.normal RVs.nil (Sub.refl _) ?_
  exact hJ2
theorem bes_C (fn : FuncId) (cp : Array Value) (hent : Enters Tryz.prog fn) (height : Nat) (hh : height ≤ 32) (J : Sd → List Assn → Prop) (W : World) (M : List Nat) (B : Nat) (hf : FndC Tryz.prog fn cp height J W M B) : ∀ l, l ≤ height → BesC Tryz.prog 139 fn cp height J W M B l
  | 0, hl => fun p xs A c done L0 w0 ho hs hx hc hn h0 hR hJ hst hB => by
    by_cases he : xs = []
    · exact bes_walkE fn cp hent height hh J W M B hf 0 p xs A c done L0 w0 ho hs hx hc hn h0 hR hJ hst hB he
    · exact bes_walk0 fn cp hent height hh J W M B hf p xs A c done L0 w0 ho hs hx hc hn h0 hR hJ hst hB he
  | l + 1, hl => fun p xs A c done L0 w0 ho hs hx hc hn h0 hR hJ hst hB => by
    by_cases he : xs = []
    · exact bes_walkE fn cp hent height hh J W M B hf (l + 1) p xs A c done L0 w0 ho hs hx hc hn h0 hR hJ hst hB he
    · exact bes_walkS fn cp hent height hh J W M B hf l (bes_C fn cp hent height hh J W M B hf l (by omega)) p xs A c done L0 w0 ho hs hx hc hn h0 hR hJ hst hB he

end Go.Proofs.YtgdjcmehlhebdaaGreatDoor
namespace Go.Proofs.YtgdjcmehlhebdaaGreatDoor
open Go.E
set_option linter.unusedVariables false
set_option maxRecDepth 4000


set_option maxHeartbeats 400000 in
theorem right10_walk (height : Nat) (hh : height ≤ 32) (A : Option Addr) (c : Nat) (xs : List Nat) (w0 : World) (hlow : ∀ x ∈ xs, x < 18446744073709551616) (hR : Ro w0 [] (SlA A (u64s xs))) :
    Calls Tryz.prog 41 #[.int .i64 (height : Int), .slice A xs.length c] w0 (Post w0 [] fun v L => v = .bool (decide (idxOk height xs)) ∧ L = []) := by
  refine Calls.of (L := []) (n := 48) (rs := [.tmp 4]) Tryz.func41 rfl rfl rfl (Nat.le_of_ble_eq_true rfl) (Sat.nil _) ?_
  refine TC.seq ?_
  refine TC.region ?_
  refine S.as ?_
  refine S.nil ?_
  refine TC.seq ?_
  refine TC.seq ?_
  refine TC.region ?_
  refine S.mv ?_
  refine S.dec rfl rfl (Qt.lt (b := 0) rfl rfl) (fun h8 => ?_) (fun h8 => ?_)
  · refine S.mv ?_
    refine S.pass rfl rfl ?_
    refine S.pass rfl rfl ?_
    refine S.q rfl rfl (Qt.pick_t rfl (by conv => lhs; whnf)) ?_
    refine S.mv ?_
    refine S.pass rfl rfl ?_
    refine S.pass rfl rfl ?_
    refine S.pass rfl rfl ?_
    refine S.q rfl rfl (Qt.pick_t rfl (by conv => lhs; whnf)) ?_
    refine S.mv ?_
    refine S.pass rfl rfl ?_
    refine S.pass rfl rfl ?_
    refine S.pass rfl rfl ?_
    refine S.q rfl rfl (Qt.pick_t rfl (by conv => lhs; whnf)) ?_
    refine S.nil ?_
    refine S.if_t rfl ?_
    refine TC.seq ?_
    refine TC.region ?_
    refine S.as ?_
    refine S.nil ?_
    refine TC.ret ?_
    refine finQ.ret (RVs.tmp (by conv => lhs; whnf) RVs.nil) (Sub.nil _) ?_
    first
      | exact ⟨(congrArg Value.bool (decide_eq_false (fun h => by have h1 := h.1; have h2 := h.2.1; omega))).symm, rfl⟩
      | exact ⟨(congrArg Value.bool (decide_eq_false (fun h => by have h3 := (h.2.2 k (by omega)).1; exact (fun h4 => h33 (Nat.div_eq_of_lt h4)) h3))).symm, rfl⟩
      | exact ⟨(congrArg Value.bool (decide_eq_false (fun h => by have h3 := (h.2.2 k (by omega)).2 (by omega); omega))).symm, rfl⟩
      | exact ⟨(congrArg Value.bool (decide_eq_true ⟨by omega, by omega, by (obtain rfl : k = xs.length := by omega); exact hto⟩)).symm, rfl⟩
  · refine S.mv ?_
    refine S.qg rfl rfl rfl (Qt.move (by conv => lhs; whnf)) ?_
    refine S.qg rfl rfl rfl (Qt.dF (Qt.gt (b := 32) rfl rfl) (by omega)) ?_
    refine S.q rfl rfl (Qt.pick_f rfl (by conv => lhs; whnf)) ?_
    refine S.mv ?_
    refine S.qg rfl rfl rfl (Qt.move (by conv => lhs; whnf)) ?_
    refine S.qg rfl rfl rfl (Qt.len_slice Tryz.underlying22 rfl) ?_
    refine S.decg rfl rfl rfl (Qt.lt (b := 1) rfl rfl) (fun h16 => ?_) (fun h16 => ?_)
    · refine S.q rfl rfl (Qt.pick_f rfl (by conv => lhs; whnf)) ?_
      refine S.mv ?_
      refine S.pass rfl rfl ?_
      refine S.pass rfl rfl ?_
      refine S.pass rfl rfl ?_
      refine S.q rfl rfl (Qt.pick_t rfl (by conv => lhs; whnf)) ?_
      refine S.nil ?_
      refine S.if_t rfl ?_
      refine TC.seq ?_
      refine TC.region ?_
      refine S.as ?_
      refine S.nil ?_
      refine TC.ret ?_
      refine finQ.ret (RVs.tmp (by conv => lhs; whnf) RVs.nil) (Sub.nil _) ?_
      first
        | exact ⟨(congrArg Value.bool (decide_eq_false (fun h => by have h1 := h.1; have h2 := h.2.1; omega))).symm, rfl⟩
        | exact ⟨(congrArg Value.bool (decide_eq_false (fun h => by have h3 := (h.2.2 k (by omega)).1; exact (fun h4 => h33 (Nat.div_eq_of_lt h4)) h3))).symm, rfl⟩
        | exact ⟨(congrArg Value.bool (decide_eq_false (fun h => by have h3 := (h.2.2 k (by omega)).2 (by omega); omega))).symm, rfl⟩
        | exact ⟨(congrArg Value.bool (decide_eq_true ⟨by omega, by omega, by (obtain rfl : k = xs.length := by omega); exact hto⟩)).symm, rfl⟩
    · refine S.q rfl rfl (Qt.pick_f rfl (by conv => lhs; whnf)) ?_
      refine S.mv ?_
      refine S.qg rfl rfl rfl (Qt.move (by conv => lhs; whnf)) ?_
      refine S.qg rfl rfl rfl (Qt.len_slice Tryz.underlying22 rfl) ?_
      refine S.decg rfl rfl rfl (Qt.gt (b := 256) rfl rfl) (fun h21 => ?_) (fun h21 => ?_)
      · refine S.q rfl rfl (Qt.pick_f rfl (by conv => lhs; whnf)) ?_
        refine S.nil ?_
        refine S.if_t rfl ?_
        refine TC.seq ?_
        refine TC.region ?_
        refine S.as ?_
        refine S.nil ?_
        refine TC.ret ?_
        refine finQ.ret (RVs.tmp (by conv => lhs; whnf) RVs.nil) (Sub.nil _) ?_
        first
          | exact ⟨(congrArg Value.bool (decide_eq_false (fun h => by have h1 := h.1; have h2 := h.2.1; omega))).symm, rfl⟩
          | exact ⟨(congrArg Value.bool (decide_eq_false (fun h => by have h3 := (h.2.2 k (by omega)).1; exact (fun h4 => h33 (Nat.div_eq_of_lt h4)) h3))).symm, rfl⟩
          | exact ⟨(congrArg Value.bool (decide_eq_false (fun h => by have h3 := (h.2.2 k (by omega)).2 (by omega); omega))).symm, rfl⟩
          | exact ⟨(congrArg Value.bool (decide_eq_true ⟨by omega, by omega, by (obtain rfl : k = xs.length := by omega); exact hto⟩)).symm, rfl⟩
      · refine S.q rfl rfl (Qt.pick_f rfl (by conv => lhs; whnf)) ?_
        refine S.nil ?_
        refine S.if_f rfl ?_
        refine TC.skip ?_
        refine TC.seq ?_
        refine TC.seq ?_
        refine TC.region ?_
        refine S.mv ?_
        refine S.q rfl rfl (Qt.len_slice Tryz.underlying22 rfl) ?_
        refine S.mv ?_
        refine S.nil ?_
        refine TC.block ?_
        refine TC.loop (γ := Nat) [26, 27, 28, 29, 5, 6, 30, 31, 32, 33, 34, 35, 36, 37, 38, 39, 40, 41, 42, 43, 44, 45, 46, 4, 47, 25] (fun k => [(25, .int .i64 (k : Int))]) (fun _ => _) (fun k => k ≤ xs.length ∧ idxTo height xs k) (fun k => xs.length - k) (0)
          ⟨Nat.zero_le _, idxTo_zero height xs⟩ ⟨Out.refl _ _, (List.forall_mem_cons.2 ⟨rfl, (fun _ h => nomatch h)⟩)⟩ (Sub.refl _) ?_
        rintro k u ⟨hk, hto⟩
        refine TC.seq ?_
        refine TC.region ?_
        refine S.dec rfl rfl (Qt.lt rfl rfl) (fun h26 => ?_) (fun h26 => ?_)
        · refine S.nil ?_
          refine TC.seq ?_
          refine S.if_t rfl ?_
          refine TC.skip ?_
          refine TC.seq ?_
          refine TC.block ?_
          refine TC.seq ?_
          refine TC.region ?_
          refine S.mv ?_
          refine S.q rfl rfl (Qt.index Tryz.underlying22 Tryz.cells40 rfl rfl (by omega) (Has.ro hR) (by rw [u64s_len]; omega)) ?_
          refine S.q rfl rfl (Qt.load rfl (Ld.sl (v := .int .u64 ((xs.getD (k) 0 : Nat) : Int)) (Has.ro hR) Tryz.one40 (u64s_get1 (by omega)))) ?_
          refine S.as ?_
          refine S.as ?_
          refine S.nil ?_
          refine TC.seq ?_
          refine TC.region ?_
          refine S.mv ?_
          refine S.mv ?_
          refine S.q rfl rfl (Qt.shrN rfl rfl (by have := hlow _ (getD_mem (k := k) 0 h26); simp only [kmax]; omega)) ?_
          refine S.dec rfl rfl (Qt.ne (b := 0) rfl rfl) (fun h33 => ?_) (fun h33 => ?_)
          · refine S.mv ?_
            refine S.pass rfl rfl ?_
            refine S.pass rfl rfl ?_
            refine S.pass rfl rfl ?_
            refine S.pass rfl rfl ?_
            refine S.pass rfl rfl ?_
            refine S.pass rfl rfl ?_
            refine S.pass rfl rfl ?_
            refine S.pass rfl rfl ?_
            refine S.pass rfl rfl ?_
            refine S.pass rfl rfl ?_
            refine S.pass rfl rfl ?_
            refine S.q rfl rfl (Qt.pick_t rfl (by conv => lhs; whnf)) ?_
            refine S.nil ?_
            refine S.if_t rfl ?_
            refine TC.seq ?_
            refine TC.region ?_
            refine S.as ?_
            refine S.nil ?_
            refine TC.ret ?_
            refine finQ.ret (RVs.tmp (by conv => lhs; whnf) RVs.nil) (Sub.nil _) ?_
            first
              | exact ⟨(congrArg Value.bool (decide_eq_false (fun h => by have h1 := h.1; have h2 := h.2.1; omega))).symm, rfl⟩
              | exact ⟨(congrArg Value.bool (decide_eq_false (fun h => by have h3 := (h.2.2 k (by omega)).1; exact (fun h4 => h33 (Nat.div_eq_of_lt h4)) h3))).symm, rfl⟩
              | exact ⟨(congrArg Value.bool (decide_eq_false (fun h => by have h3 := (h.2.2 k (by omega)).2 (by omega); omega))).symm, rfl⟩
              | exact ⟨(congrArg Value.bool (decide_eq_true ⟨by omega, by omega, by (obtain rfl : k = xs.length := by omega); exact hto⟩)).symm, rfl⟩
          · refine S.mv ?_
            refine S.qg rfl rfl rfl (Qt.move (by conv => lhs; whnf)) ?_
            refine S.decg rfl rfl rfl (Qt.gt (b := 0) rfl rfl) (fun h36 => ?_) (fun h36 => ?_)
            · refine S.qg rfl rfl rfl (Qt.move (by conv => lhs; whnf)) ?_
              refine S.qg rfl rfl rfl (Qt.move (by conv => lhs; whnf)) ?_
              refine S.qg rfl rfl rfl (Qt.move (by conv => lhs; whnf)) ?_
              refine S.qg rfl rfl rfl (Qt.sub (b := 1) rfl rfl (by omega) (by simp only [kmax]; omega)) ?_
              refine S.qg rfl rfl rfl (Qt.index Tryz.underlying22 Tryz.cells40 rfl rfl (by omega) (Has.ro hR) (by rw [u64s_len]; omega)) ?_
              refine S.qg rfl rfl rfl (Qt.load rfl (Ld.sl (v := .int .u64 ((xs.getD (k - 1) 0 : Nat) : Int)) (Has.ro hR) Tryz.one40 (u64s_get1 (by omega)))) ?_
              refine S.qg rfl rfl rfl (Qt.move (by conv => lhs; whnf)) ?_
              refine S.decg rfl rfl rfl (Qt.ge rfl rfl) (fun h44 => ?_) (fun h44 => ?_)
              · refine S.qg rfl rfl rfl (Qt.pick_t rfl (by conv => lhs; whnf)) ?_
                refine S.q rfl rfl (Qt.pick_f rfl (by conv => lhs; whnf)) ?_
                refine S.nil ?_
                refine S.if_t rfl ?_
                refine TC.seq ?_
                refine TC.region ?_
                refine S.as ?_
                refine S.nil ?_
                refine TC.ret ?_
                refine finQ.ret (RVs.tmp (by conv => lhs; whnf) RVs.nil) (Sub.nil _) ?_
                first
                  | exact ⟨(congrArg Value.bool (decide_eq_false (fun h => by have h1 := h.1; have h2 := h.2.1; omega))).symm, rfl⟩
                  | exact ⟨(congrArg Value.bool (decide_eq_false (fun h => by have h3 := (h.2.2 k (by omega)).1; exact (fun h4 => h33 (Nat.div_eq_of_lt h4)) h3))).symm, rfl⟩
                  | exact ⟨(congrArg Value.bool (decide_eq_false (fun h => by have h3 := (h.2.2 k (by omega)).2 (by omega); omega))).symm, rfl⟩
                  | exact ⟨(congrArg Value.bool (decide_eq_true ⟨by omega, by omega, by (obtain rfl : k = xs.length := by omega); exact hto⟩)).symm, rfl⟩
              · refine S.qg rfl rfl rfl (Qt.pick_t rfl (by conv => lhs; whnf)) ?_
                refine S.q rfl rfl (Qt.pick_f rfl (by conv => lhs; whnf)) ?_
                refine S.nil ?_
                refine S.if_f rfl ?_
                refine TC.skip ?_
                refine TC.region ?_
                refine S.q rfl rfl (Qt.add (b := 1) rfl rfl (by simp only [kmax]; omega)) ?_
                refine S.mv ?_
                refine S.nil ?_
                refine ⟨k + 1, ?_, ?_, ⟨?_, (List.forall_mem_cons.2 ⟨rfl, (fun _ h => nomatch h)⟩)⟩, Sub.refl _⟩
                · exact ⟨by show _ ≤ _; omega, idxTo_succ hto (lt_of_div0 (Decidable.not_not.1 h33)) (fun hk0 => by omega)⟩
                · show _ < _; dsimp only; omega
                repeat (first | exact Out.refl _ _ | refine Out.put rfl ?_ | refine Out.puts rfl ?_ | refine Out.scr ?_ | refine Out.scr' rfl ?_)
            · refine S.qg rfl rfl rfl (Qt.move (by conv => lhs; whnf)) ?_
              refine S.pass rfl rfl ?_
              refine S.pass rfl rfl ?_
              refine S.pass rfl rfl ?_
              refine S.pass rfl rfl ?_
              refine S.pass rfl rfl ?_
              refine S.pass rfl rfl ?_
              refine S.pass rfl rfl ?_
              refine S.qg rfl rfl rfl (Qt.pick_f rfl (by conv => lhs; whnf)) ?_
              refine S.q rfl rfl (Qt.pick_f rfl (by conv => lhs; whnf)) ?_
              refine S.nil ?_
              refine S.if_f rfl ?_
              refine TC.skip ?_
              refine TC.region ?_
              refine S.q rfl rfl (Qt.add (b := 1) rfl rfl (by simp only [kmax]; omega)) ?_
              refine S.mv ?_
              refine S.nil ?_
              refine ⟨k + 1, ?_, ?_, ⟨?_, (List.forall_mem_cons.2 ⟨rfl, (fun _ h => nomatch h)⟩)⟩, Sub.refl _⟩
              · exact ⟨by show _ ≤ _; omega, idxTo_succ hto (lt_of_div0 (Decidable.not_not.1 h33)) (fun hk0 => by omega)⟩
              · show _ < _; dsimp only; omega
              repeat (first | exact Out.refl _ _ | refine Out.put rfl ?_ | refine Out.puts rfl ?_ | refine Out.scr ?_ | refine Out.scr' rfl ?_)
        · refine S.nil ?_
          refine TC.seq ?_
          refine S.if_f rfl ?_
          refine TC.exit ?_
          refine TC.seq ?_
          refine TC.region ?_
          refine S.as ?_
          refine S.nil ?_
          refine TC.ret ?_
          refine finQ.ret (RVs.tmp (by conv => lhs; whnf) RVs.nil) (Sub.nil _) ?_
          first
            | exact ⟨(congrArg Value.bool (decide_eq_false (fun h => by have h1 := h.1; have h2 := h.2.1; omega))).symm, rfl⟩
            | exact ⟨(congrArg Value.bool (decide_eq_false (fun h => by have h3 := (h.2.2 k (by omega)).1; exact (fun h4 => h33 (Nat.div_eq_of_lt h4)) h3))).symm, rfl⟩
            | exact ⟨(congrArg Value.bool (decide_eq_false (fun h => by have h3 := (h.2.2 k (by omega)).2 (by omega); omega))).symm, rfl⟩
            | exact ⟨(congrArg Value.bool (decide_eq_true ⟨by omega, by omega, by (obtain rfl : k = xs.length := by omega); exact hto⟩)).symm, rfl⟩
theorem right10_R (height : Nat) (hh : height ≤ 32) (A : Option Addr) (c : Nat) (xs : List Nat) (w0 : World) (hlow : ∀ x ∈ xs, x < 18446744073709551616) (hR : Ro w0 [] (SlA A (u64s xs))) : Calls Tryz.prog 41 #[.int .i64 (height : Int), .slice A xs.length c] w0 (Ret w0 (.bool (decide (idxOk height xs)))) := Calls.ret (right10_walk height hh A c xs w0 hlow hR)

set_option maxHeartbeats 400000 in
theorem right10Z_walk (z : Int) (hz : z < 0 ∨ 32 < z) (A : Option Addr) (c : Nat) (xs : List Nat) (w0 : World) :
    Calls Tryz.prog 41 #[.int .i64 z, .slice A xs.length c] w0 (Post w0 [] fun v L => v = .bool false ∧ L = []) := by
  refine Calls.of (L := []) (n := 48) (rs := [.tmp 4]) Tryz.func41 rfl rfl rfl (Nat.le_of_ble_eq_true rfl) (Sat.nil _) ?_
  refine TC.seq ?_
  refine TC.region ?_
  refine S.as ?_
  refine S.nil ?_
  refine TC.seq ?_
  refine TC.seq ?_
  refine TC.region ?_
  refine S.mv ?_
  refine S.dec rfl rfl (Qt.lti rfl rfl) (fun h8 => ?_) (fun h8 => ?_)
  · refine S.mv ?_
    refine S.pass rfl rfl ?_
    refine S.pass rfl rfl ?_
    refine S.q rfl rfl (Qt.pick_t rfl (by conv => lhs; whnf)) ?_
    refine S.mv ?_
    refine S.pass rfl rfl ?_
    refine S.pass rfl rfl ?_
    refine S.pass rfl rfl ?_
    refine S.q rfl rfl (Qt.pick_t rfl (by conv => lhs; whnf)) ?_
    refine S.mv ?_
    refine S.pass rfl rfl ?_
    refine S.pass rfl rfl ?_
    refine S.pass rfl rfl ?_
    refine S.q rfl rfl (Qt.pick_t rfl (by conv => lhs; whnf)) ?_
    refine S.nil ?_
    refine S.if_t rfl ?_
    refine TC.seq ?_
    refine TC.region ?_
    refine S.as ?_
    refine S.nil ?_
    refine TC.ret ?_
    refine finQ.ret (RVs.tmp (by conv => lhs; whnf) RVs.nil) (Sub.nil _) ?_
    exact ⟨rfl, rfl⟩
  · refine S.mv ?_
    refine S.qg rfl rfl rfl (Qt.move (by conv => lhs; whnf)) ?_
    refine S.qg rfl rfl rfl (Qt.dT (Qt.gti rfl rfl) (by omega)) ?_
    refine S.q rfl rfl (Qt.pick_f rfl (by conv => lhs; whnf)) ?_
    refine S.mv ?_
    refine S.pass rfl rfl ?_
    refine S.pass rfl rfl ?_
    refine S.pass rfl rfl ?_
    refine S.q rfl rfl (Qt.pick_t rfl (by conv => lhs; whnf)) ?_
    refine S.mv ?_
    refine S.pass rfl rfl ?_
    refine S.pass rfl rfl ?_
    refine S.pass rfl rfl ?_
    refine S.q rfl rfl (Qt.pick_t rfl (by conv => lhs; whnf)) ?_
    refine S.nil ?_
    refine S.if_t rfl ?_
    refine TC.seq ?_
    refine TC.region ?_
    refine S.as ?_
    refine S.nil ?_
    refine TC.ret ?_
    refine finQ.ret (RVs.tmp (by conv => lhs; whnf) RVs.nil) (Sub.nil _) ?_
    exact ⟨rfl, rfl⟩
theorem right10Z_R (z : Int) (hz : z < 0 ∨ 32 < z) (A : Option Addr) (c : Nat) (xs : List Nat) (w0 : World) : Calls Tryz.prog 41 #[.int .i64 z, .slice A xs.length c] w0 (Ret w0 (.bool false)) := Calls.ret (right10Z_walk z hz A c xs w0)

theorem right10_T (height : Nat) (hh : height ≤ 32) (A : Option Addr) (c : Nat) (xs : List Nat) (hi : idxOk height xs) (w0 : World) (hlow : ∀ x ∈ xs, x < 18446744073709551616) (hR : Ro w0 [] (SlA A (u64s xs))) : Calls Tryz.prog 41 #[.int .i64 (height : Int), .slice A xs.length c] w0 (Ret w0 (.bool true)) := by
  have h := right10_R height hh A c xs w0 hlow hR
  rwa [decide_eq_true hi] at h
theorem right10_F (height : Nat) (hh : height ≤ 32) (A : Option Addr) (c : Nat) (xs : List Nat) (hi : ¬ idxOk height xs) (w0 : World) (hlow : ∀ x ∈ xs, x < 18446744073709551616) (hR : Ro w0 [] (SlA A (u64s xs))) : Calls Tryz.prog 41 #[.int .i64 (height : Int), .slice A xs.length c] w0 (Ret w0 (.bool false)) := by
  have h := right10_R height hh A c xs w0 hlow hR
  rwa [decide_eq_false hi] at h
set_option maxHeartbeats 400000 in
theorem mk1_walk (E : Nat → H32) (tb mb height : Nat) (ms : Tm) (hh : height ≤ 32) (tv eb ob : Nat) (done : Sd) (hl : done.length ≤ 16384) (O : Option Addr) (d : Nat) (l p : Nat) (ho : okAt height (l, p)) (w0 : World) (hL : Sat w0 [Blk ob 33 [.slice O done.length d], OwnA 49 32 O (done).length d (hcs ((done).map (fun a => getT E ms a)))]) (hB : Ro w0 (fps [Blk ob 33 [.slice O done.length d], OwnA 49 32 O (done).length d (hcs ((done).map (fun a => getT E ms a)))]) (Blk tb 243 (treeCs E height mb))) (hM : Ro w0 (fps [Blk ob 33 [.slice O done.length d], OwnA 49 32 O (done).length d (hcs ((done).map (fun a => getT E ms a)))]) (MapA mb encAt hv (ms))) (hV : Ro w0 (fps [Blk ob 33 [.slice O done.length d], OwnA 49 32 O (done).length d (hcs ((done).map (fun a => getT E ms a)))]) (Blk tv 155 [.pointer (some ⟨tb, 0, none⟩)])) :
    Calls Tryz.prog 140 #[.int .i64 (l : Int), .int .u64 (p : Int), .pointer (some ⟨tv, 0, none⟩), .pointer (some ⟨eb, 0, none⟩), .pointer (some ⟨ob, 0, none⟩)] w0 (Post w0 (fps [Blk ob 33 [.slice O done.length d], OwnA 49 32 O (done).length d (hcs ((done).map (fun a => getT E ms a)))]) fun v L => ∃ O2 d2, L = [Blk ob 33 [.slice O2 (done ++ [(l, p)]).length d2], OwnA 49 32 O2 (done ++ [(l, p)]).length d2 (hcs ((done ++ [(l, p)]).map (fun a => getT E ms a)))]) := by
  refine Calls.of (L := [Blk ob 33 [.slice O done.length d], OwnA 49 32 O (done).length d (hcs ((done).map (fun a => getT E ms a)))]) (n := 23) (rs := []) Tryz.func140 rfl rfl rfl (Nat.le_of_ble_eq_true rfl) (hL) ?_
  refine TC.seq ?_
  refine TC.region ?_
  refine S.q rfl rfl (Qt.load rfl (Ld.one (Has.ro hV) Tryz.one155 rfl)) ?_
  refine S.mv ?_
  refine S.mv ?_
  refine S.opS rfl rfl (OpV.con0 Tryz.ent141 rfl (fun w hw => Calls.ret (node_walk E tb mb height ms l p ho hh w (Rd.ro hB w hw) (Rd.ro hM w hw))) ?_)
  refine S.mv ?_
  refine S.q rfl rfl (Qt.extract rfl rfl) ?_
  refine S.q rfl rfl (Qt.extract rfl rfl) ?_
  refine S.opS rfl rfl (OpV.alloc Tryz.zero49 (fun b7 => ?_))
  refine S.opN rfl (OpV.storeV0 (v := hv (_)) rfl rfl (hv_size Tryz.cells49) (hv_all _) (hv_len _) ?_)
  refine S.as ?_
  refine S.nil ?_
  refine TC.seq ?_
  refine TC.seq ?_
  refine TC.region ?_
  refine S.mv ?_
  refine S.q rfl rfl (Qt.nenil_nil Tryz.underlying51 rfl) ?_
  refine S.nil ?_
  refine S.if_f rfl ?_
  refine TC.skip ?_
  refine TC.region ?_
  refine S.q rfl rfl (Qt.load rfl (Ld.one (Has.at 1 rfl) Tryz.one33 (rfl))) ?_
  refine S.q rfl rfl (Qt.load rfl (Ld.hash1 (x := getT E ms (l, p)) (Has.at 0 rfl) Tryz.row49 Tryz.cells49)) ?_
  refine S.opS rfl rfl (OpV.slice1 (bytes := 32) (v := hv (getT E ms (l, p))) Tryz.underlying33 Tryz.elem49 (by decide) rfl (hv_len _) (fun g21 => ?_))
  refine S.opS rfl rfl (OpV.app3 (bytes := 32) (news := hvl (getT E ms (l, p))) Tryz.underlying33 Tryz.elem49 rfl rfl (Has.blk (cs := hvl (getT E ms (l, p))) (Has.at 0 rfl)) (by rw [hvl_length]) (bytesL_one _) (by simp only [maxLen]; omega) (by omega) (fun O2 d2 => ?_))
  refine S.opN rfl (OpV.storeV2 rfl (by conv => lhs; whnf) (by exact Tryz.cells33) (by rfl) (by rfl) ?_)
  refine S.nil ?_
  refine finQ.normal RVs.nil (Sub.trans (Sub.keep _ (Sub.keep _ (Sub.drop _ (Sub.drop _ (Sub.nil []))))) (Sub.trans (Sub.keep _ (Sub.trans (Sub.keep _ (Sub.refl _)) (Sub.of_perm (List.perm_middle (l₁ := [_, _]))))) (Sub.of_perm (List.perm_middle (l₁ := [_, _]))))) ?_
  refine ⟨O2, d2, ?_⟩
  simp only [len_snoc, List.map_append, hcs_append, List.map_cons, List.map_nil, hcs_cons, hcs_nil, List.append_nil]
  rfl
set_option maxHeartbeats 400000 in
theorem ct1_walk (nb m l p : Nat) (hm : m ≤ 16384) (w0 : World) (hL : Sat w0 [Blk nb 3 [.int .i64 ((m : Nat) : Int)]]) :
    Calls Tryz.prog 213 #[.int .i64 (l : Int), .int .u64 (p : Int), .pointer (some ⟨nb, 0, none⟩)] w0 (Post w0 (fps [Blk nb 3 [.int .i64 ((m : Nat) : Int)]]) fun v L => L = [Blk nb 3 [.int .i64 ((m + 1 : Nat) : Int)]]) := by
  refine Calls.of (L := [Blk nb 3 [.int .i64 ((m : Nat) : Int)]]) (n := 7) (rs := []) Tryz.func213 rfl rfl rfl (Nat.le_of_ble_eq_true rfl) (hL) ?_
  refine TC.region ?_
  refine S.q rfl rfl (Qt.load rfl (Ld.one (Has.at 0 rfl) Tryz.one3 (rfl))) ?_
  refine S.q rfl rfl (Qt.add (b := 1) rfl rfl (by simp only [kmax]; omega)) ?_
  refine S.opN rfl (OpV.storeV0 rfl (by conv => lhs; whnf) (by exact Tryz.cells3) (by rfl) (by rfl) ?_)
  refine S.nil ?_
  refine finQ.normal RVs.nil (Sub.refl _) ?_
  rfl
set_option maxHeartbeats 800000 in
theorem make10_walk (E : Nat → H32) (tb mb height : Nat) (ms : Tm) (hh : height ≤ 32) (A : Option Addr) (c : Nat) (xs : List Nat) (hc : xs.length ≤ c) (hi : idxOk height xs) (w0 : World) (hB : Ro w0 [] (Blk tb 243 (treeCs E height mb))) (hM : Ro w0 [] (MapA mb encAt hv (ms))) (hlow : ∀ x ∈ xs, x < 18446744073709551616) (hR : Ro w0 [] (SlA A (u64s xs))) :
    Calls Tryz.prog 83 #[.pointer (some ⟨tb, 0, none⟩), .slice A xs.length c] w0 (Post w0 [] fun v L => ∃ O d, v = .tuple #[.slice O (spots height xs 0).length d, .nilIface] ∧ L = [OwnA 49 32 O (spots height xs 0).length d (hcs ((spots height xs 0).map (fun a => getT E ms a)))]) := by
  refine Calls.of (L := []) (n := 28) (rs := [.tmp 4, .tmp 5]) Tryz.func83 rfl rfl rfl (Nat.le_of_ble_eq_true rfl) (Sat.nil _) ?_
  have hsp : (spots height xs 0).length ≤ 8193 := by have h1 := spots_len height xs 0; have h2 : xs.length * height ≤ 256 * 32 := Nat.mul_le_mul hi.2.1 hh; omega
  refine TC.ownNil 49 32 ?_
  refine TC.seq ?_
  refine TC.region ?_
  refine S.opS rfl rfl (OpV.box (by conv => lhs; whnf) (fun b2 => ?_))
  refine S.as ?_
  refine S.as ?_
  refine S.nil ?_
  refine TC.seq ?_
  refine TC.block ?_
  refine TC.seq ?_
  refine TC.region ?_
  refine S.q rfl rfl (Qt.load rfl (Ld.one (Has.at 0 rfl) Tryz.one155 rfl)) ?_
  refine S.q rfl rfl (Qt.eqp_some Tryz.underlying155 rfl) ?_
  refine S.as ?_
  refine S.nil ?_
  refine S.if_f rfl ?_
  refine TC.seq ?_
  refine TC.region ?_
  refine S.q rfl rfl (Qt.load rfl (Ld.one (Has.at 0 rfl) Tryz.one155 rfl)) ?_
  refine S.opS rfl rfl (OpV.con0 Tryz.ent80 rfl (fun w hw => height85_R E tb mb height w (Rd.ro hB w hw)) ?_)
  refine S.mv ?_
  refine S.opS rfl rfl (OpV.con0 Tryz.ent41 rfl (fun w hw => right10_T height hh A c xs hi w hlow (Rd.ro hR w hw)) ?_)
  refine S.q rfl rfl (Qt.not_t rfl) ?_
  refine S.as ?_
  refine S.nil ?_
  refine S.if_f rfl ?_
  refine TC.skip ?_
  refine TC.seq ?_
  refine TC.region ?_
  refine S.opS rfl rfl (OpV.alloc Tryz.zero33 (fun b6 => ?_))
  refine S.nil ?_
  refine TC.seq ?_
  refine TC.region ?_
  refine S.opS rfl rfl (OpV.alloc Tryz.zero51 (fun b7 => ?_))
  refine S.nil ?_
  refine TC.seq ?_
  refine TC.region ?_
  refine S.mv ?_
  refine S.q rfl rfl (Qt.load rfl (Ld.one (Has.at 2 rfl) Tryz.one155 rfl)) ?_
  refine S.opS rfl rfl (OpV.con0 Tryz.ent80 rfl (fun w hw => height85_R E tb mb height w (Rd.ro hB w hw)) ?_)
  refine S.q rfl rfl (Qt.makeFuncL (fs := []) (cs := [.pointer (some ⟨b2, 0, none⟩), .pointer (some ⟨b7, 0, none⟩), .pointer (some ⟨b6, 0, none⟩)]) rfl rfl) ?_
  refine S.opS rfl rfl (OpV.con (Pre := [Blk b6 33 [.slice none ([] : Sd).length 0], OwnA 49 32 none (([] : Sd)).length 0 (hcs ((([] : Sd)).map (fun a => getT E ms a)))]) (R := _) Tryz.ent139 rfl ((List.perm_middle (l₁ := [_])).trans (List.Perm.cons _ (List.perm_middle (l₁ := [_, _])))) (fun w hw => bes_C 140 #[.pointer (some ⟨b2, 0, none⟩), .pointer (some ⟨b7, 0, none⟩), .pointer (some ⟨b6, 0, none⟩)] Tryz.ent140 height hh (fun done L => ∃ O d, L = [Blk b6 33 [.slice O done.length d], OwnA 49 32 O (done).length d (hcs ((done).map (fun a => getT E ms a)))]) w (fps [Blk b6 33 [.slice none ([] : Sd).length 0], OwnA 49 32 none (([] : Sd)).length 0 (hcs ((([] : Sd)).map (fun a => getT E ms a)))]) (spots height xs 0).length (fun a done L w' ho hlt hJ hst => by obtain ⟨O, d, rfl⟩ := hJ; exact (mk1_walk E tb mb height ms hh b2 b7 b6 done (by omega) O d a.1 a.2 ho w' hst.sat (Ro.of_pre (R := []) (by rw [List.append_nil]; exact hst) (Ro.of_pre hw hB)) (Ro.of_pre (R := []) (by rw [List.append_nil]; exact hst) (Ro.of_pre hw hM)) (Ro.of_pre (R := []) (by rw [List.append_nil]; exact hst) (Ro.of_rest hw (List.mem_of_getElem? (i := 1) rfl)))).mono fun e w'' ⟨v, L', q1, q2, O2, d2, q3⟩ => ⟨v, L', q1, q2, O2, d2, q3⟩) height (Nat.le_refl _) 0 xs A c [] _ w (okRoot height) hi.rise hi.root hc hi.2.1 hw.sat.left (Ro.of_pre hw hR) ⟨none, 0, rfl⟩ (St.start hw.sat.left) (by rw [List.length_nil, Nat.zero_add]; exact Nat.le_refl _)) ?_)
  rintro v L' ⟨O, d, rfl⟩
  refine S.nil ?_
  refine TC.seq ?_
  refine TC.seq ?_
  refine TC.region ?_
  refine S.q rfl rfl (Qt.load rfl (Ld.one (Has.at 2 rfl) Tryz.one51 rfl)) ?_
  refine S.q rfl rfl (Qt.nenil_nil Tryz.underlying51 rfl) ?_
  refine S.nil ?_
  refine S.if_f rfl ?_
  refine TC.skip ?_
  refine TC.seq ?_
  refine TC.region ?_
  refine S.q rfl rfl (Qt.load rfl (Ld.one (Has.at 0 rfl) Tryz.one33 (rfl))) ?_
  refine S.as ?_
  refine S.as ?_
  refine S.nil ?_
  refine TC.ret ?_
  refine finQ.ret (RVs.tmp (by conv => lhs; whnf) (RVs.tmp (by conv => lhs; whnf) RVs.nil)) (Sub.trans (Sub.keep _ (Sub.drop _ (Sub.drop _ (Sub.drop _ (Sub.nil []))))) (Sub.trans (Sub.keep _ (Sub.refl _)) (Sub.of_perm (List.perm_middle (l₁ := [_]))))) ?_
  exact ⟨O, d, rfl, rfl⟩
set_option maxHeartbeats 800000 in
theorem leaves10_walk (E : Nat → H32) (tb mb height : Nat) (ms : Tm) (hh : height ≤ 32) (A : Option Addr) (c : Nat) (xs : List Nat) (hi : idxOk height xs) (w0 : World) (hB : Ro w0 [] (Blk tb 243 (treeCs E height mb))) (hM : Ro w0 [] (MapA mb encAt hv (ms))) (hlow : ∀ x ∈ xs, x < 18446744073709551616) (hR : Ro w0 [] (SlA A (u64s xs))) :
    Calls Tryz.prog 82 #[.pointer (some ⟨tb, 0, none⟩), .slice A xs.length c] w0 (Post w0 [] fun v L => ∃ O d, v = .tuple #[.slice O xs.length d, .nilIface] ∧ L = [OwnA 49 32 O xs.length d (hcs (xs.map (fun x => getT E ms (0, x))))]) := by
  refine Calls.of (L := []) (n := 43) (rs := [.tmp 4, .tmp 5]) Tryz.func82 rfl rfl rfl (Nat.le_of_ble_eq_true rfl) (Sat.nil _) ?_
  have hn := hi.2.1
  refine TC.ownNil 49 32 ?_
  refine TC.seq ?_
  refine TC.region ?_
  refine S.as ?_
  refine S.as ?_
  refine S.nil ?_
  refine TC.seq ?_
  refine TC.block ?_
  refine TC.seq ?_
  refine TC.region ?_
  refine S.mv ?_
  refine S.q rfl rfl (Qt.eqp_some Tryz.underlying155 rfl) ?_
  refine S.as ?_
  refine S.nil ?_
  refine S.if_f rfl ?_
  refine TC.seq ?_
  refine TC.region ?_
  refine S.mv ?_
  refine S.opS rfl rfl (OpV.con0 Tryz.ent80 rfl (fun w hw => height85_R E tb mb height w (Rd.ro hB w hw)) ?_)
  refine S.mv ?_
  refine S.opS rfl rfl (OpV.con0 Tryz.ent41 rfl (fun w hw => right10_T height hh A c xs hi w hlow (Rd.ro hR w hw)) ?_)
  refine S.q rfl rfl (Qt.not_t rfl) ?_
  refine S.as ?_
  refine S.nil ?_
  refine S.if_f rfl ?_
  refine TC.skip ?_
  refine TC.seq ?_
  refine TC.region ?_
  refine S.as ?_
  refine S.nil ?_
  refine TC.seq ?_
  refine TC.seq ?_
  refine TC.region ?_
  refine S.mv ?_
  refine S.q rfl rfl (Qt.len_slice Tryz.underlying22 rfl) ?_
  refine S.mv ?_
  refine S.nil ?_
  refine TC.block ?_
  refine TC.loop (γ := Nat × Option Addr × Nat) [25, 26, 27, 8, 29, 30, 31, 28, 32, 33, 9, 10, 34, 35, 36, 4, 5, 37, 38, 39, 40, 6, 41, 24] (fun g => [(24, .int .i64 ((g.1 : Nat) : Int)), (6, .slice g.2.1 g.1 g.2.2)]) (fun g => [OwnA 49 32 g.2.1 g.1 g.2.2 (hcs ((xs.take g.1).map (fun x => getT E ms (0, x))))]) (fun g => g.1 ≤ xs.length) (fun g => xs.length - g.1) ((0, none, 0))
    (Nat.zero_le _) ⟨Out.refl _ _, (List.forall_mem_cons.2 ⟨rfl, (List.forall_mem_cons.2 ⟨rfl, (fun _ h => nomatch h)⟩)⟩)⟩ (Sub.refl _) ?_
  rintro ⟨k, O, d⟩ u hk
  dsimp only at hk
  refine TC.seq ?_
  refine TC.region ?_
  refine S.dec rfl rfl (Qt.lt rfl rfl) (fun h25 => ?_) (fun h25 => ?_)
  · refine S.nil ?_
    refine TC.seq ?_
    refine S.if_t rfl ?_
    refine TC.skip ?_
    refine TC.seq ?_
    refine TC.block ?_
    refine TC.seq ?_
    refine TC.region ?_
    refine S.q rfl rfl (Qt.index Tryz.underlying22 Tryz.cells40 rfl rfl (by omega) (Has.ro hR) (by rw [u64s_len]; omega)) ?_
    refine S.q rfl rfl (Qt.load rfl (Ld.sl (v := .int .u64 ((xs.getD (k) 0 : Nat) : Int)) (Has.ro hR) Tryz.one40 (u64s_get1 (by omega)))) ?_
    refine S.as ?_
    refine S.nil ?_
    refine TC.seq ?_
    refine TC.region ?_
    refine S.mv ?_
    refine S.mv ?_
    refine S.opS rfl rfl (OpV.con0 Tryz.ent138 rfl (fun w hw => leaf_R E tb mb height ms (xs.getD k 0) hh (hi.low _ (getD_mem 0 h25)) w (Rd.ro hB w hw) (Rd.ro hM w hw)) ?_)
    refine S.mv ?_
    refine S.q rfl rfl (Qt.extract rfl rfl) ?_
    refine S.q rfl rfl (Qt.extract rfl rfl) ?_
    refine S.opS rfl rfl (OpV.alloc Tryz.zero49 (fun b9 => ?_))
    refine S.opN rfl (OpV.storeV0 (v := hv (_)) rfl rfl (hv_size Tryz.cells49) (hv_all _) (hv_len _) ?_)
    refine S.as ?_
    refine S.nil ?_
    refine TC.seq ?_
    refine TC.seq ?_
    refine TC.region ?_
    refine S.mv ?_
    refine S.q rfl rfl (Qt.nenil_nil Tryz.underlying51 rfl) ?_
    refine S.nil ?_
    refine S.if_f rfl ?_
    refine TC.skip ?_
    refine TC.region ?_
    refine S.mv ?_
    refine S.q rfl rfl (Qt.load rfl (Ld.hash1 (x := getT E ms (0, xs.getD k 0)) (Has.at 0 rfl) Tryz.row49 Tryz.cells49)) ?_
    refine S.opS rfl rfl (OpV.slice1 (bytes := 32) (v := hv (getT E ms (0, xs.getD k 0))) Tryz.underlying33 Tryz.elem49 (by decide) rfl (hv_len _) (fun g39 => ?_))
    refine S.opS rfl rfl (OpV.app2 (bytes := 32) (news := hvl (getT E ms (0, xs.getD k 0))) Tryz.underlying33 Tryz.elem49 rfl rfl (Has.blk (cs := hvl (getT E ms (0, xs.getD k 0))) (Has.at 0 rfl)) (by rw [hvl_length]) (bytesL_one _) (by simp only [maxLen]; omega) (by omega) (fun O' d' => ?_))
    refine S.as ?_
    refine S.nil ?_
    refine TC.region ?_
    refine S.q rfl rfl (Qt.add (b := 1) rfl rfl (by simp only [kmax]; omega)) ?_
    refine S.mv ?_
    refine S.nil ?_
    refine ⟨(k + 1, O', d'), ?_, ?_, ⟨?_, (List.forall_mem_cons.2 ⟨rfl, (List.forall_mem_cons.2 ⟨rfl, (fun _ h => nomatch h)⟩)⟩)⟩, (by dsimp only; rw [← map_step (fun x => getT E ms (0, x)) 0 h25]; exact Sub.trans (Sub.keep _ (Sub.drop _ (Sub.drop _ (Sub.nil [])))) (Sub.trans (Sub.keep _ (Sub.refl _)) (Sub.of_perm (List.perm_middle (l₁ := [_, _])))))⟩
    · show _ ≤ _; dsimp only; omega
    · show _ < _; dsimp only; omega
    repeat (first | exact Out.refl _ _ | refine Out.put rfl ?_ | refine Out.puts rfl ?_ | refine Out.scr ?_ | refine Out.scr' rfl ?_)
  · refine S.nil ?_
    refine TC.seq ?_
    refine S.if_f rfl ?_
    refine TC.exit ?_
    refine TC.seq ?_
    refine TC.region ?_
    refine S.mv ?_
    refine S.as ?_
    refine S.as ?_
    refine S.nil ?_
    refine TC.ret ?_
    refine finQ.ret (RVs.tmp (by conv => lhs; whnf) (RVs.tmp (by conv => lhs; whnf) RVs.nil)) (Sub.refl _) ?_
    obtain rfl : k = xs.length := by omega
    exact ⟨O, d, rfl, by rw [List.take_length]⟩
set_option maxHeartbeats 400000 in
theorem count10_walk (height : Nat) (hh : height ≤ 32) (A : Option Addr) (c : Nat) (xs : List Nat) (hc : xs.length ≤ c) (hi : idxOk height xs) (w0 : World) (hlow : ∀ x ∈ xs, x < 18446744073709551616) (hR : Ro w0 [] (SlA A (u64s xs))) :
    Calls Tryz.prog 205 #[.int .i64 (height : Int), .slice A xs.length c] w0 (Post w0 [] fun v L => v = .tuple #[.int .i64 (((spots height xs 0).length : Nat) : Int), .nilIface] ∧ L = []) := by
  refine Calls.of (L := []) (n := 17) (rs := [.tmp 4, .tmp 5]) Tryz.func205 rfl rfl rfl (Nat.le_of_ble_eq_true rfl) (Sat.nil _) ?_
  have hsp : (spots height xs 0).length ≤ 8193 := by have h1 := spots_len height xs 0; have h2 : xs.length * height ≤ 256 * 32 := Nat.mul_le_mul hi.2.1 hh; omega
  refine TC.seq ?_
  refine TC.region ?_
  refine S.as ?_
  refine S.as ?_
  refine S.nil ?_
  refine TC.seq ?_
  refine TC.seq ?_
  refine TC.region ?_
  refine S.mv ?_
  refine S.mv ?_
  refine S.opS rfl rfl (OpV.con0 Tryz.ent41 rfl (fun w hw => right10_T height hh A c xs hi w hlow (Rd.ro hR w hw)) ?_)
  refine S.q rfl rfl (Qt.not_t rfl) ?_
  refine S.nil ?_
  refine S.if_f rfl ?_
  refine TC.skip ?_
  refine TC.seq ?_
  refine TC.region ?_
  refine S.opS rfl rfl (OpV.alloc Tryz.zero3 (fun b6 => ?_))
  refine S.opN rfl (OpV.storeV0 rfl (by conv => lhs; whnf) (by exact Tryz.cells3) (by rfl) (by rfl) ?_)
  refine S.nil ?_
  refine TC.seq ?_
  refine TC.region ?_
  refine S.mv ?_
  refine S.mv ?_
  refine S.q rfl rfl (Qt.makeFuncL (fs := []) (cs := [.pointer (some ⟨b6, 0, none⟩)]) rfl rfl) ?_
  refine S.opS rfl rfl (OpV.con (Pre := [Blk b6 3 [.int .i64 ((([] : Sd).length : Nat) : Int)]]) (R := _) Tryz.ent139 rfl (List.Perm.refl _) (fun w hw => bes_C 213 #[.pointer (some ⟨b6, 0, none⟩)] Tryz.ent213 height hh (fun done L => L = [Blk b6 3 [.int .i64 ((done.length : Nat) : Int)]]) w (fps [Blk b6 3 [.int .i64 ((([] : Sd).length : Nat) : Int)]]) (spots height xs 0).length (fun a done L w' ho hlt hJ hst => by subst hJ; exact (ct1_walk b6 done.length a.1 a.2 (by omega) w' hst.sat).mono fun e w'' ⟨v, L', q1, q2, q3⟩ => ⟨v, L', q1, q2, by show L' = [Blk b6 3 [.int .i64 (((done ++ [a]).length : Nat) : Int)]]; rw [len_snoc]; exact q3⟩) height (Nat.le_refl _) 0 xs A c [] _ w (okRoot height) hi.rise hi.root hc hi.2.1 hw.sat.left (Ro.of_pre hw hR) rfl (St.start hw.sat.left) (by rw [List.length_nil, Nat.zero_add]; exact Nat.le_refl _)) ?_)
  rintro v L' rfl
  refine S.nil ?_
  refine TC.seq ?_
  refine TC.region ?_
  refine S.q rfl rfl (Qt.load rfl (Ld.one (Has.at 0 rfl) Tryz.one3 rfl)) ?_
  refine S.as ?_
  refine S.as ?_
  refine S.nil ?_
  refine TC.ret ?_
  refine finQ.ret (RVs.tmp (by conv => lhs; whnf) (RVs.tmp (by conv => lhs; whnf) RVs.nil)) (Sub.nil _) ?_
  exact ⟨rfl, rfl⟩
set_option maxHeartbeats 400000 in
theorem count10_walkF2 (z : Int) (A : Option Addr) (c : Nat) (xs : List Nat) (w0 : World) (hr : ∀ w, Ro w [] (SlA A (u64s xs)) → Calls Tryz.prog 41 #[.int .i64 z, .slice A xs.length c] w (Ret w (.bool false))) (hR : Ro w0 [] (SlA A (u64s xs))) :
    Calls Tryz.prog 205 #[.int .i64 z, .slice A xs.length c] w0 (Post w0 [] fun v L => v = .tuple #[.int .i64 0, .iface 73 (.int .i64 1)] ∧ L = []) := by
  refine Calls.of (L := []) (n := 17) (rs := [.tmp 4, .tmp 5]) Tryz.func205 rfl rfl rfl (Nat.le_of_ble_eq_true rfl) (Sat.nil _) ?_
  refine TC.seq ?_
  refine TC.region ?_
  refine S.as ?_
  refine S.as ?_
  refine S.nil ?_
  refine TC.seq ?_
  refine TC.seq ?_
  refine TC.region ?_
  refine S.mv ?_
  refine S.mv ?_
  refine S.opS rfl rfl (OpV.con0 Tryz.ent41 rfl (fun w hw => hr w (Rd.ro hR w hw)) ?_)
  refine S.q rfl rfl (Qt.not_f rfl) ?_
  refine S.nil ?_
  refine S.if_t rfl ?_
  refine TC.seq ?_
  refine TC.region ?_
  refine S.q rfl rfl (Qt.makeInterface Tryz.underlying73 (fun _ h => nomatch h) (by conv => lhs; whnf)) ?_
  refine S.as ?_
  refine S.as ?_
  refine S.nil ?_
  refine TC.ret ?_
  refine finQ.ret (RVs.tmp (by conv => lhs; whnf) (RVs.tmp (by conv => lhs; whnf) RVs.nil)) (Sub.nil _) ?_
  exact ⟨rfl, rfl⟩
end Go.Proofs.YtgdjcmehlhebdaaGreatDoor
