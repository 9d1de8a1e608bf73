/-
  Walks: the nodes of a proof. Printed by a program of ours.
-/
import Derived.Test.YtlneklemjfefpaaDoorFX
import Derived.Test.YtlneklemjfefpaaDoorP1
namespace Go.Proofs.YtlneklemjfefpaaDoor
open Go.E
set_option linter.unusedVariables false
set_option maxRecDepth 4000


set_option maxHeartbeats 400000 in
theorem split1_walk (l p x lb pb : Nat) (hl : l < 32) (hp : p < 4294967296) (hx : x < 18446744073709551616) (w0 : World) (hV : Ro w0 [] (Blk lb 3 [.int .i64 ((l + 1 : Nat) : Int)])) (hP : Ro w0 [] (Blk pb 24 [.int .u64 (p : Int)])) :
    Calls Tryd.prog 154 #[.int .u64 (x : Int), .pointer (some ⟨lb, 0, none⟩), .pointer (some ⟨pb, 0, none⟩)] w0 (Post w0 [] fun v L => v = .bool (decide (x / 2 ^ l ≠ 2 * p)) ∧ L = []) := by
  refine Calls.of (L := []) (n := 12) (rs := [.tmp 4]) Tryd.func154 rfl rfl rfl (Nat.le_of_ble_eq_true rfl) (Sat.nil _) ?_
  refine TC.seq ?_
  refine TC.region ?_
  refine S.q rfl rfl (Qt.assign (by conv => lhs; whnf)) ?_
  refine S.nil ?_
  refine TC.seq ?_
  refine S.draw ([], []) Tryd.mixed (Sub.refl _) ?_
  refine D.qX (k := 0) rfl (by kernel_rfl) (by kernel_rfl) (by kernel_rfl) rfl rfl (Qt.move (by conv => lhs; whnf)) ?_
  refine D.qX (k := 1) rfl (by kernel_rfl) (by kernel_rfl) (by kernel_rfl) rfl rfl (Qt.load rfl (Ld.one (Has.ro hV) Tryd.one3 (rfl))) ?_
  refine D.qX (k := 2) rfl (by kernel_rfl) (by kernel_rfl) (by kernel_rfl) rfl rfl (Qt.as (Qt.sub (a := l + 1) (b := 1) rfl rfl (by omega) (by simp only [kmax]; omega)) (by rw [Nat.add_sub_cancel])) ?_
  refine D.qX (k := 3) rfl (by kernel_rfl) (by kernel_rfl) (by kernel_rfl) rfl rfl (Qt.shrN rfl rfl (by simp only [kmax]; omega)) ?_
  refine D.qX (k := 4) rfl (by kernel_rfl) (by kernel_rfl) (by kernel_rfl) rfl rfl (Qt.load rfl (Ld.one (Has.ro hP) Tryd.one24 (rfl))) ?_
  refine D.qX (k := 5) rfl (by kernel_rfl) (by kernel_rfl) (by kernel_rfl) rfl rfl (Qt.mul (a := 2) rfl rfl (by simp only [kmax]; omega)) ?_
  refine D.qX (k := 6) rfl (by kernel_rfl) (by kernel_rfl) (by kernel_rfl) rfl rfl (Qt.ne rfl rfl) ?_
  refine D.qX (k := 7) rfl (by kernel_rfl) (by kernel_rfl) (by kernel_rfl) rfl rfl (Qt.assign (by conv => lhs; whnf)) ?_
  refine D.done (Sub.refl _) (by kernel_rfl) ?_
  refine TC.ret ?_
  refine finQ.ret (RVs.tmp (by conv => lhs; whnf) RVs.nil) (Sub.nil _) ?_
  exact ⟨rfl, rfl⟩
set_option maxHeartbeats 400000 in
theorem idxf_walk (fn : FuncId) (cp : Array Value) (q : Nat → Bool) (hent : Enters Tryd.prog fn) (A : Option Addr) (c : Nat) (xs : List Nat) (hn : xs.length ≤ 256) (w0 : World) (hR : Ro w0 [] (SlA A (u64s xs))) (hf : ∀ x ∈ xs, ∀ w, St w0 [] [] w → Calls Tryd.prog fn ((([.int .u64 (x : Int)] : List Value) ++ cp.toList).toArray) w (Ret w (.bool (q x)))) :
    Calls Tryd.prog 153 #[.slice A xs.length c, .func (.func fn) #[] cp] w0 (Post w0 [] fun v L => ∃ z : Int, v = .int .i64 z ∧ L = [] ∧ FoundI xs q z) := by
  refine Calls.of (L := []) (n := 19) (rs := [.tmp 4]) Tryd.func153 rfl rfl rfl (Nat.le_of_ble_eq_true rfl) (Sat.nil _) ?_
  refine TC.seq ?_
  refine TC.region ?_
  refine S.q rfl rfl (Qt.assign (by conv => lhs; whnf)) ?_
  refine S.nil ?_
  refine TC.seq ?_
  refine TC.seq ?_
  refine TC.region ?_
  refine S.q rfl rfl (Qt.move (by conv => lhs; whnf)) ?_
  refine S.q rfl rfl (Qt.len_slice Tryd.underlying71 rfl) ?_
  refine S.q rfl rfl (Qt.move (by conv => lhs; whnf)) ?_
  refine S.nil ?_
  refine TC.block ?_
  refine TC.loop (γ := Nat) [9, 10, 5, 11, 12, 13, 14, 15, 16, 17, 4, 18, 8] (fun k => [(8, .int .i64 (k : Int))]) (fun _ => _) (fun k => k ≤ xs.length ∧ ∀ j, j < k → q (xs.getD j 0) = false) (fun k => xs.length - k) (0)
    ⟨Nat.zero_le _, fun j h => absurd h (Nat.not_lt_zero _)⟩ ⟨Out.refl _ _, (List.forall_mem_cons.2 ⟨rfl, (fun _ h => nomatch h)⟩)⟩ (Sub.refl _) ?_
  rintro k u ⟨hk, hq⟩
  refine TC.seq ?_
  refine TC.region ?_
  refine S.dec rfl rfl (Qt.lt rfl rfl) (fun h9 => ?_) (fun h9 => ?_)
  · refine S.nil ?_
    refine TC.seq ?_
    refine S.if_t rfl ?_
    refine TC.skip ?_
    refine TC.seq ?_
    refine TC.block ?_
    refine TC.seq ?_
    refine TC.region ?_
    refine S.q rfl rfl (Qt.move (by conv => lhs; whnf)) ?_
    refine S.q rfl rfl (Qt.assign (by conv => lhs; whnf)) ?_
    refine S.nil ?_
    refine TC.seq ?_
    refine TC.region ?_
    refine S.q rfl rfl (Qt.move (by conv => lhs; whnf)) ?_
    refine S.q rfl rfl (Qt.move (by conv => lhs; whnf)) ?_
    refine S.q rfl rfl (Qt.move (by conv => lhs; whnf)) ?_
    refine S.q rfl rfl (Qt.index Tryd.underlying71 Tryd.cells24 rfl rfl (by omega) (Has.ro hR) (by rw [u64s_len]; omega)) ?_
    refine S.q rfl rfl (Qt.load rfl (Ld.sl (v := .int .u64 ((xs.getD k 0 : Nat) : Int)) (Has.ro hR) Tryd.one24 (u64s_get1 h9))) ?_
    refine S.opS rfl rfl (OpV.con0 hent rfl (fun w hw => hf _ (getD_mem 0 h9) w hw) ?_)
    refine S.nil ?_
    refine TC.ifb rfl (fun b16 => ?_) (fun b16 => ?_)
    · refine TC.seq ?_
      refine TC.region ?_
      refine S.q rfl rfl (Qt.move (by conv => lhs; whnf)) ?_
      refine S.q rfl rfl (Qt.assign (by conv => lhs; whnf)) ?_
      refine S.nil ?_
      refine TC.ret ?_
      refine finQ.ret (RVs.tmp (by conv => lhs; whnf) RVs.nil) (Sub.nil _) ?_
      exact ⟨_, rfl, rfl, fun h => by omega, fun _ => ⟨k, rfl, h9, hq, b16⟩⟩
    · refine TC.skip ?_
      refine TC.region ?_
      refine S.q rfl rfl (Qt.add (b := 1) rfl rfl (by simp only [kmax]; omega)) ?_
      refine S.q rfl rfl (Qt.move (by conv => lhs; whnf)) ?_
      refine S.nil ?_
      refine ⟨k + 1, ?_, ?_, ⟨?_, (List.forall_mem_cons.2 ⟨rfl, (fun _ h => nomatch h)⟩)⟩, Sub.refl _⟩
      · exact ⟨by show _ ≤ _; omega, fun j hj => (Nat.lt_or_ge j k).elim (hq j) (fun h => by (obtain rfl : j = k := by omega); exact b16)⟩
      · show _ < _; dsimp only; omega
      repeat (first | exact Out.refl _ _ | refine Out.put rfl ?_ | refine Out.puts rfl ?_ | refine Out.scr ?_ | refine Out.scr' rfl ?_)
  · refine S.nil ?_
    refine TC.seq ?_
    refine S.if_f rfl ?_
    refine TC.exit ?_
    refine TC.seq ?_
    refine TC.region ?_
    refine S.q rfl rfl (Qt.assign (by conv => lhs; whnf)) ?_
    refine S.nil ?_
    refine TC.ret ?_
    refine finQ.ret (RVs.tmp (by conv => lhs; whnf) RVs.nil) (Sub.nil _) ?_
    exact ⟨_, rfl, rfl, fun _ j hj => hq j (by omega), fun h => absurd (by decide) h⟩
set_option maxHeartbeats 400000 in
theorem split_walk (height l p : Nat) (hh : height ≤ 32) (ho : okAt height (l + 1, p)) (A : Option Addr) (c : Nat) (xs : List Nat) (hs : xs.Pairwise (· < ·)) (hx : ∀ x ∈ xs, x / 2 ^ (l + 1) = p) (hc : xs.length ≤ c) (hn : xs.length ≤ 256) (w0 : World) (hR : Ro w0 [] (SlA A (u64s xs))) :
    Calls Tryd.prog 135 #[.slice A xs.length c, .int .i64 ((l + 1 : Nat) : Int), .int .u64 (p : Int)] w0 (Post w0 [] fun v L => ∃ A' c', v = .tuple #[.slice A (cutN xs l (2 * p)).length c, .slice A' (cutN xs l (2 * p + 1)).length c'] ∧ L = [] ∧ (cutN xs l (2 * p + 1)).length ≤ c' ∧ ∀ w M, Ro w M (SlA A (u64s xs)) → Ro w M (SlA A (u64s (cutN xs l (2 * p)))) ∧ Ro w M (SlA A' (u64s (cutN xs l (2 * p + 1))))) := by
  refine Calls.of (L := []) (n := 21) (rs := [.tmp 6, .tmp 7]) Tryd.func135 rfl rfl rfl (Nat.le_of_ble_eq_true rfl) (Sat.nil _) ?_
  obtain ⟨hl32, hp32⟩ := okAt_lt hh ho
  refine TC.seq ?_
  refine TC.region ?_
  refine S.opS rfl rfl (OpV.box (v := .int .i64 ((l + 1 : Nat) : Int)) rfl (fun b4 => ?_))
  refine S.opS rfl rfl (OpV.box (v := .int .u64 (p : Int)) rfl (fun b5 => ?_))
  refine S.q rfl rfl (Qt.assign (by conv => lhs; whnf)) ?_
  refine S.q rfl rfl (Qt.assign (by conv => lhs; whnf)) ?_
  refine S.nil ?_
  refine TC.seq ?_
  refine TC.region ?_
  refine S.q rfl rfl (Qt.move (by conv => lhs; whnf)) ?_
  refine S.q rfl rfl (Qt.makeFuncL (fs := []) (cs := [.pointer (some ⟨b4, 0, none⟩), .pointer (some ⟨b5, 0, none⟩)]) rfl rfl) ?_
  refine S.opS rfl rfl (OpV.con (Pre := []) (R := _) Tryd.ent153 rfl (List.Perm.refl _) (fun w hw => idxf_walk 154 #[.pointer (some ⟨b4, 0, none⟩), .pointer (some ⟨b5, 0, none⟩)] (fun x => decide (x / 2 ^ l ≠ 2 * p)) Tryd.ent154 A c xs hn w (Rd.ro hR w hw) (fun x hm w' hw' => Calls.ret (split1_walk l p x b4 b5 (by omega) hp32 (by have := below_u64 hh ho (hx x hm); omega) w' ((Rd.at 1 rfl w hw).go hw' (fun b hb => by cases hb)) ((Rd.at 0 rfl w hw).go hw' (fun b hb => by cases hb))))) ?_)
  rintro v L' ⟨z, rfl, rfl, hz⟩
  refine S.q rfl rfl (Qt.assign (by conv => lhs; whnf)) ?_
  refine S.nil ?_
  refine TC.seq ?_
  refine TC.seq ?_
  refine TC.region ?_
  refine S.q rfl rfl (Qt.move (by conv => lhs; whnf)) ?_
  refine S.dec rfl rfl (Qt.lti rfl rfl) (fun h13 => ?_) (fun h13 => ?_)
  · refine S.nil ?_
    refine S.if_t rfl ?_
    refine TC.seq ?_
    refine TC.region ?_
    refine S.q rfl rfl (Qt.move (by conv => lhs; whnf)) ?_
    refine S.q rfl rfl (Qt.assign (by conv => lhs; whnf)) ?_
    refine S.q rfl rfl (Qt.assign (by conv => lhs; whnf)) ?_
    refine S.nil ?_
    refine TC.ret ?_
    refine finQ.ret (RVs.tmp (by conv => lhs; whnf) (RVs.tmp (by conv => lhs; whnf) RVs.nil)) (Sub.nil _) ?_
    obtain ⟨e1, e2⟩ := split_at (i := xs.length) hs hx (fun j hj => Decidable.not_not.1 (of_decide_eq_false (hz.no h13 j hj))) (fun h => absurd h (Nat.lt_irrefl _))
    rw [List.take_length] at e1
    rw [List.drop_length] at e2
    exact ⟨none, 0, by rw [← e1, ← e2]; rfl, rfl, by rw [← e2]; exact Nat.le_refl _, fun w M h => by rw [← e1, ← e2]; exact ⟨h, Ro.slnil w M none⟩⟩
  · refine S.nil ?_
    refine S.if_f rfl ?_
    refine TC.skip ?_
    refine TC.seq ?_
    refine S.draw ([], []) Tryd.mixed (Sub.nil _) ?_
    obtain ⟨i, rfl, hi, hq1, hq2⟩ := hz.yes h13
    obtain ⟨e1, e2⟩ := split_at (i := i) hs hx (fun j hj => Decidable.not_not.1 (of_decide_eq_false (hq1 j hj))) (fun _ => of_decide_eq_true hq2)
    have hi2 : (xs.take i).length = i := by rw [List.length_take]; omega
    refine D.qX (k := 0) rfl (by kernel_rfl) (by kernel_rfl) (by kernel_rfl) rfl rfl (Qt.move (by conv => lhs; whnf)) ?_
    refine D.qX (k := 1) rfl (by kernel_rfl) (by kernel_rfl) (by kernel_rfl) rfl rfl (Qt.move (by conv => lhs; whnf)) ?_
    refine D.qX (k := 2) rfl (by kernel_rfl) (by kernel_rfl) (by kernel_rfl) rfl rfl (Qt.slice_hi Tryd.underlying71 Tryd.cells24 rfl rfl (by omega)) ?_
    refine D.qX (k := 3) rfl (by kernel_rfl) (by kernel_rfl) (by kernel_rfl) rfl rfl (Qt.move (by conv => lhs; whnf)) ?_
    refine D.qX (k := 4) rfl (by kernel_rfl) (by kernel_rfl) (by kernel_rfl) rfl rfl (Qt.move (by conv => lhs; whnf)) ?_
    refine D.qX (k := 5) rfl (by kernel_rfl) (by kernel_rfl) (by kernel_rfl) rfl rfl (Qt.slice_lo Tryd.underlying71 Tryd.cells24 rfl rfl (by omega)) ?_
    refine D.qX (k := 6) rfl (by kernel_rfl) (by kernel_rfl) (by kernel_rfl) rfl rfl (Qt.assign (by conv => lhs; whnf)) ?_
    refine D.qX (k := 7) rfl (by kernel_rfl) (by kernel_rfl) (by kernel_rfl) rfl rfl (Qt.assign (by conv => lhs; whnf)) ?_
    refine D.done (Sub.nil _) (by kernel_rfl) ?_
    refine TC.ret ?_
    refine finQ.ret (RVs.tmp (by conv => lhs; whnf) (RVs.tmp (by conv => lhs; whnf) RVs.nil)) (Sub.nil _) ?_
    exact ⟨if c = i then A else A.map (·.add (i * 1)), c - i, by rw [← e1, ← e2, hi2, List.length_drop]; rfl, rfl, by rw [← e2, List.length_drop]; omega, fun w M h => by
        rw [← e1, ← e2, ← u64s_take, ← u64s_drop]
        exact ⟨h.take i, by have h2 := h.cut (c := c) (l := i) (k := i) (fun e => by rw [u64s_len]; omega); rw [Nat.mul_one]; exact h2⟩⟩
set_option maxHeartbeats 400000 in
theorem bes_walkE (fn : FuncId) (cp : Array Value) (hent : Enters Tryd.prog fn) (height : Nat) (hh : height ≤ 32) (J : Sd → List Assn → Prop) (W : World) (M : List Nat) (B : Nat) (hf : FndC Tryd.prog fn cp height J W M B) (l : Nat) (p : Nat) (xs : List Nat) (A : Option Addr) (c : Nat) (done : Sd) (L0 : List Assn) (w0 : World) (ho : okAt height (l, p)) (hs : xs.Pairwise (· < ·)) (hx : ∀ x ∈ xs, x / 2 ^ (l) = p) (hc : xs.length ≤ c) (hn : xs.length ≤ 256) (h0 : Sat w0 L0) (hR : Ro w0 (fps L0) (SlA A (u64s xs))) (hJ : J done L0) (hst : St W M L0 w0) (hB : done.length + (spots (l) xs p).length ≤ B) (he : xs = []) :
    Calls Tryd.prog 110 #[.slice A xs.length c, .int .i64 ((l : Nat) : Int), .int .u64 (p : Int), .func (.func fn) #[] cp] w0 (Post w0 (fps L0) fun v L => J (done ++ spots (l) xs p) L) := by
  refine Calls.of (L := L0) (n := 43) (rs := []) Tryd.func110 rfl rfl rfl (Nat.le_of_ble_eq_true rfl) (h0) ?_
  subst he
  rw [spots_nil, List.length_singleton] at hB
  rw [spots_nil]
  refine TC.block ?_
  refine TC.seq ?_
  refine TC.region ?_
  refine S.q rfl rfl (Qt.move (by conv => lhs; whnf)) ?_
  refine S.q rfl rfl (Qt.len_slice Tryd.underlying71 rfl) ?_
  refine S.q rfl rfl (Qt.dT (Qt.eq (b := 0) rfl rfl) (rfl)) ?_
  refine S.q rfl rfl (Qt.assign (by conv => lhs; whnf)) ?_
  refine S.nil ?_
  refine S.if_t rfl ?_
  refine TC.region ?_
  refine S.q rfl rfl (Qt.move (by conv => lhs; whnf)) ?_
  refine S.q rfl rfl (Qt.move (by conv => lhs; whnf)) ?_
  refine S.q rfl rfl (Qt.move (by conv => lhs; whnf)) ?_
  refine S.opS rfl rfl (OpV.con (Pre := L0) (R := []) hent rfl ((perm_app _)) (fun w hw => hf (l, p) done L0 w ho (by omega) hJ (hst.next (st_app hw))) ?_)
  rintro v L1 hJ1
  rw [List.append_nil]
  refine S.nil ?_
  refine finQ.normal RVs.nil (Sub.refl _) ?_
  exact hJ1
set_option maxHeartbeats 400000 in
theorem bes_walk0 (fn : FuncId) (cp : Array Value) (hent : Enters Tryd.prog fn) (height : Nat) (hh : height ≤ 32) (J : Sd → List Assn → Prop) (W : World) (M : List Nat) (B : Nat) (hf : FndC Tryd.prog fn cp height J W M B) (p : Nat) (xs : List Nat) (A : Option Addr) (c : Nat) (done : Sd) (L0 : List Assn) (w0 : World) (ho : okAt height (0, p)) (hs : xs.Pairwise (· < ·)) (hx : ∀ x ∈ xs, x / 2 ^ (0) = p) (hc : xs.length ≤ c) (hn : xs.length ≤ 256) (h0 : Sat w0 L0) (hR : Ro w0 (fps L0) (SlA A (u64s xs))) (hJ : J done L0) (hst : St W M L0 w0) (hB : done.length + (spots (0) xs p).length ≤ B) (he : xs ≠ []) :
    Calls Tryd.prog 110 #[.slice A xs.length c, .int .i64 ((0 : Nat) : Int), .int .u64 (p : Int), .func (.func fn) #[] cp] w0 (Post w0 (fps L0) fun v L => J (done ++ spots (0) xs p) L) := by
  refine Calls.of (L := L0) (n := 43) (rs := []) Tryd.func110 rfl rfl rfl (Nat.le_of_ble_eq_true rfl) (h0) ?_
  have hpos := List.length_pos_iff.2 he
  refine TC.block ?_
  refine TC.seq ?_
  refine TC.region ?_
  refine S.q rfl rfl (Qt.move (by conv => lhs; whnf)) ?_
  refine S.q rfl rfl (Qt.len_slice Tryd.underlying71 rfl) ?_
  refine S.q rfl rfl (Qt.dF (Qt.eq (b := 0) rfl rfl) (by omega)) ?_
  refine S.q rfl rfl (Qt.assign (by conv => lhs; whnf)) ?_
  refine S.nil ?_
  refine S.if_f rfl ?_
  refine TC.seq ?_
  refine TC.region ?_
  refine S.q rfl rfl (Qt.move (by conv => lhs; whnf)) ?_
  refine S.q rfl rfl (Qt.dF (Qt.gt (b := 0) rfl rfl) (by omega)) ?_
  refine S.q rfl rfl (Qt.assign (by conv => lhs; whnf)) ?_
  refine S.nil ?_
  refine S.if_f rfl ?_
  refine TC.skip ?_
  refine finQ.normal RVs.nil (Sub.refl _) ?_
  rw [spots_zero he, List.append_nil]
  exact hJ
set_option maxHeartbeats 800000 in
theorem bes_walkS (fn : FuncId) (cp : Array Value) (hent : Enters Tryd.prog fn) (height : Nat) (hh : height ≤ 32) (J : Sd → List Assn → Prop) (W : World) (M : List Nat) (B : Nat) (hf : FndC Tryd.prog fn cp height J W M B) (l : Nat) (hrec : BesC Tryd.prog 110 fn cp height J W M B l) (p : Nat) (xs : List Nat) (A : Option Addr) (c : Nat) (done : Sd) (L0 : List Assn) (w0 : World) (ho : okAt height (l + 1, p)) (hs : xs.Pairwise (· < ·)) (hx : ∀ x ∈ xs, x / 2 ^ (l + 1) = p) (hc : xs.length ≤ c) (hn : xs.length ≤ 256) (h0 : Sat w0 L0) (hR : Ro w0 (fps L0) (SlA A (u64s xs))) (hJ : J done L0) (hst : St W M L0 w0) (hB : done.length + (spots (l + 1) xs p).length ≤ B) (he : xs ≠ []) :
    Calls Tryd.prog 110 #[.slice A xs.length c, .int .i64 ((l + 1 : Nat) : Int), .int .u64 (p : Int), .func (.func fn) #[] cp] w0 (Post w0 (fps L0) fun v L => J (done ++ spots (l + 1) xs p) L) := by
  refine Calls.of (L := L0) (n := 43) (rs := []) Tryd.func110 rfl rfl rfl (Nat.le_of_ble_eq_true rfl) (h0) ?_
  have hpos := List.length_pos_iff.2 he
  obtain ⟨hl32, hp32⟩ := okAt_lt hh ho
  obtain ⟨okl, okr⟩ := okAt_kids ho
  rw [spots_succ he, List.length_append] at hB
  rw [spots_succ he, ← List.append_assoc]
  have hcl := cutN_len xs l (2 * p)
  have hcr := cutN_len xs l (2 * p + 1)
  refine TC.block ?_
  refine TC.seq ?_
  refine TC.region ?_
  refine S.q rfl rfl (Qt.move (by conv => lhs; whnf)) ?_
  refine S.q rfl rfl (Qt.len_slice Tryd.underlying71 rfl) ?_
  refine S.q rfl rfl (Qt.dF (Qt.eq (b := 0) rfl rfl) (by omega)) ?_
  refine S.q rfl rfl (Qt.assign (by conv => lhs; whnf)) ?_
  refine S.nil ?_
  refine S.if_f rfl ?_
  refine TC.seq ?_
  refine TC.region ?_
  refine S.q rfl rfl (Qt.move (by conv => lhs; whnf)) ?_
  refine S.q rfl rfl (Qt.dT (Qt.gt (b := 0) rfl rfl) (by omega)) ?_
  refine S.q rfl rfl (Qt.assign (by conv => lhs; whnf)) ?_
  refine S.nil ?_
  refine S.if_t rfl ?_
  refine TC.seq ?_
  refine TC.region ?_
  refine S.q rfl rfl (Qt.move (by conv => lhs; whnf)) ?_
  refine S.q rfl rfl (Qt.move (by conv => lhs; whnf)) ?_
  refine S.q rfl rfl (Qt.move (by conv => lhs; whnf)) ?_
  refine S.opS rfl rfl (OpV.con (Pre := []) (R := _) Tryd.ent135 rfl (List.Perm.refl _) (fun w hw => split_walk height l p hh ho A c xs hs hx hc hn w (Rd.ro hR w hw)) ?_)
  rintro v L' ⟨A', c', rfl, rfl, hc', hro⟩
  refine S.q rfl rfl (Qt.move (by conv => lhs; whnf)) ?_
  refine S.q rfl rfl (Qt.extract rfl rfl) ?_
  refine S.q rfl rfl (Qt.extract rfl rfl) ?_
  refine S.q rfl rfl (Qt.assign (by conv => lhs; whnf)) ?_
  refine S.q rfl rfl (Qt.assign (by conv => lhs; whnf)) ?_
  refine S.nil ?_
  refine TC.seq ?_
  refine TC.region ?_
  refine S.q rfl rfl (Qt.move (by conv => lhs; whnf)) ?_
  refine S.q rfl rfl (Qt.move (by conv => lhs; whnf)) ?_
  refine S.q rfl rfl (Qt.as (Qt.sub (a := l + 1) (b := 1) rfl rfl (by omega) (by simp only [kmax]; omega)) (by rw [Nat.add_sub_cancel])) ?_
  refine S.q rfl rfl (Qt.move (by conv => lhs; whnf)) ?_
  refine S.q rfl rfl (Qt.mul (a := 2) rfl rfl (by simp only [kmax]; omega)) ?_
  refine S.q rfl rfl (Qt.move (by conv => lhs; whnf)) ?_
  refine S.opS rfl rfl (OpV.con (Pre := L0) (R := []) Tryd.ent110 rfl ((perm_app _)) (fun w hw => hrec (2 * p) (cutN xs l (2 * p)) A c done L0 w okl (cutN_rise hs) cutN_mem (by omega) (by omega) (st_app hw).sat (hro w _ (Ro.of_pre hw hR)).1 hJ (hst.next (st_app hw)) (by omega)) ?_)
  rintro v L1 hJ1
  rw [List.append_nil]
  refine S.nil ?_
  refine TC.region ?_
  refine S.q rfl rfl (Qt.move (by conv => lhs; whnf)) ?_
  refine S.q rfl rfl (Qt.move (by conv => lhs; whnf)) ?_
  refine S.q rfl rfl (Qt.as (Qt.sub (a := l + 1) (b := 1) rfl rfl (by omega) (by simp only [kmax]; omega)) (by rw [Nat.add_sub_cancel])) ?_
  refine S.q rfl rfl (Qt.move (by conv => lhs; whnf)) ?_
  refine S.q rfl rfl (Qt.mul (a := 2) rfl rfl (by simp only [kmax]; omega)) ?_
  refine S.q rfl rfl (Qt.add (b := 1) rfl rfl (by simp only [kmax]; omega)) ?_
  refine S.q rfl rfl (Qt.move (by conv => lhs; whnf)) ?_
  refine S.opS rfl rfl (OpV.con (Pre := L1) (R := []) Tryd.ent110 rfl ((perm_app _)) (fun w hw => hrec (2 * p + 1) (cutN xs l (2 * p + 1)) A' c' (done ++ spots l (cutN xs l (2 * p)) (2 * p)) L1 w okr (cutN_rise hs) cutN_mem hc' (by omega) (st_app hw).sat (hro w _ (Ro.of_pre hw hR)).2 hJ1 (hst.next (st_app hw)) (by rw [List.length_append]; omega)) ?_)
  rintro v L2 hJ2
  rw [List.append_nil]
  refine S.nil ?_
  refine finQ.normal RVs.nil (Sub.refl _) ?_
  exact hJ2
theorem bes_C (fn : FuncId) (cp : Array Value) (hent : Enters Tryd.prog fn) (height : Nat) (hh : height ≤ 32) (J : Sd → List Assn → Prop) (W : World) (M : List Nat) (B : Nat) (hf : FndC Tryd.prog fn cp height J W M B) : ∀ l, l ≤ height → BesC Tryd.prog 110 fn cp height J W M B l
  | 0, hl => fun p xs A c done L0 w0 ho hs hx hc hn h0 hR hJ hst hB => by
    by_cases he : xs = []
    · exact bes_walkE fn cp hent height hh J W M B hf 0 p xs A c done L0 w0 ho hs hx hc hn h0 hR hJ hst hB he
    · exact bes_walk0 fn cp hent height hh J W M B hf p xs A c done L0 w0 ho hs hx hc hn h0 hR hJ hst hB he
  | l + 1, hl => fun p xs A c done L0 w0 ho hs hx hc hn h0 hR hJ hst hB => by
    by_cases he : xs = []
    · exact bes_walkE fn cp hent height hh J W M B hf (l + 1) p xs A c done L0 w0 ho hs hx hc hn h0 hR hJ hst hB he
    · exact bes_walkS fn cp hent height hh J W M B hf l (bes_C fn cp hent height hh J W M B hf l (by omega)) p xs A c done L0 w0 ho hs hx hc hn h0 hR hJ hst hB he

end Go.Proofs.YtlneklemjfefpaaDoor
