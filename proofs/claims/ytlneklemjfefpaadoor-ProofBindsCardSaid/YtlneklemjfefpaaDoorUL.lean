/-
  Walks: two proofs of one root, and its law. Printed by a program of ours.
-/
import Derived.Test.YtlneklemjfefpaaDoorUJ
import Derived.Test.YtlneklemjfefpaaDoorKB
namespace Go.Proofs.YtlneklemjfefpaaDoor
open Go.E
set_option linter.unusedVariables false
set_option maxRecDepth 4000
theorem Tryd.cells105 : (Tryd.prog.info? 105).map (·.size) = some 4 := by kernel_rfl
theorem Tryd.row105 : rowT Tryd.prog 105 = true := by kernel_rfl
theorem Tryd.ent62 : Enters Tryd.prog 62 := ⟨_, Tryd.func62, by kernel_rfl, rfl⟩
theorem Tryd.zv9 : zero1 Tryd.prog 9 = some (.string ⟨#[]⟩) := by kernel_rfl
theorem Tryd.keyH : KeyLaw Tryd.prog 23 hv := Go.E.keyH Tryd.underlying23 Tryd.underlying5 Tryd.cells5
set_option maxHeartbeats 400000 in
theorem hashesG_walk (A : Option Addr) (c : Nat) (xs : List H32) (B : Option Addr) (d : Nat) (ys : List H32) (hx : xs.length ≤ 65536) (w0 : World) (hA : Ro w0 [] (SlA A (hcs xs))) (hB : Ro w0 [] (SlA B (hcs ys))) :
    Calls Tryd.prog 37 #[.slice A xs.length c, .slice B ys.length d] w0 (Post w0 [] fun v L => v = .bool (decide (xs = ys)) ∧ L = []) := by
  refine Calls.of (L := []) (n := 26) (rs := [.tmp 4]) Tryd.func37 rfl rfl rfl (Nat.le_of_ble_eq_true rfl) (Sat.nil _) ?_
  refine TC.seq ?_
  refine TC.region ?_
  refine S.q rfl rfl (Qt.assign (by conv => lhs; whnf)) ?_
  refine S.nil ?_
  refine TC.seq ?_
  refine TC.seq ?_
  refine TC.region ?_
  refine S.q rfl rfl (Qt.move (by conv => lhs; whnf)) ?_
  refine S.q rfl rfl (Qt.len_slice Tryd.underlying44 rfl) ?_
  refine S.q rfl rfl (Qt.move (by conv => lhs; whnf)) ?_
  refine S.q rfl rfl (Qt.len_slice Tryd.underlying44 rfl) ?_
  refine S.dec rfl rfl (Qt.ne rfl rfl) (fun h10 => ?_) (fun h10 => ?_)
  · refine S.nil ?_
    refine S.if_t rfl ?_
    refine TC.seq ?_
    refine TC.region ?_
    refine S.q rfl rfl (Qt.assign (by conv => lhs; whnf)) ?_
    refine S.nil ?_
    refine TC.ret ?_
    refine finQ.ret (RVs.tmp (by conv => lhs; whnf) RVs.nil) (Sub.nil _) ?_
    exact ⟨(congrArg Value.bool (decide_eq_false (fun e => h10 (by rw [e])))).symm, rfl⟩
  · refine S.nil ?_
    refine S.if_f rfl ?_
    refine TC.skip ?_
    refine TC.seq ?_
    refine TC.seq ?_
    refine TC.region ?_
    refine S.q rfl rfl (Qt.move (by conv => lhs; whnf)) ?_
    refine S.q rfl rfl (Qt.len_slice Tryd.underlying44 rfl) ?_
    refine S.q rfl rfl (Qt.move (by conv => lhs; whnf)) ?_
    refine S.nil ?_
    refine TC.block ?_
    refine TC.loop (γ := Nat) [14, 15, 5, 16, 17, 18, 19, 20, 21, 22, 23, 24, 4, 25, 13] (fun k => [(13, .int .i64 (k : Int))]) (fun _ => _) (fun k => k ≤ xs.length ∧ ∀ j, j < k → xs.getD j zeroH = ys.getD j zeroH) (fun k => xs.length - k) (0)
      ⟨Nat.zero_le _, fun j h => absurd h (Nat.not_lt_zero _)⟩ ⟨Out.refl _ _, (List.forall_mem_cons.2 ⟨rfl, (fun _ h => nomatch h)⟩)⟩ (Sub.refl _) ?_
    rintro k u ⟨hk, hq⟩
    refine TC.seq ?_
    refine TC.region ?_
    refine S.dec rfl rfl (Qt.lt rfl rfl) (fun h14 => ?_) (fun h14 => ?_)
    · refine S.nil ?_
      refine TC.seq ?_
      refine S.if_t rfl ?_
      refine TC.skip ?_
      refine TC.seq ?_
      refine TC.block ?_
      refine TC.seq ?_
      refine TC.region ?_
      refine S.q rfl rfl (Qt.move (by conv => lhs; whnf)) ?_
      refine S.q rfl rfl (Qt.assign (by conv => lhs; whnf)) ?_
      refine S.nil ?_
      refine TC.seq ?_
      refine S.draw ([], []) Tryd.mixed (Sub.refl _) ?_
      refine D.qX (k := 0) rfl (by kernel_rfl) (by kernel_rfl) (by kernel_rfl) rfl rfl (Qt.move (by conv => lhs; whnf)) ?_
      refine D.qX (k := 1) rfl (by kernel_rfl) (by kernel_rfl) (by kernel_rfl) rfl rfl (Qt.move (by conv => lhs; whnf)) ?_
      refine D.qX (k := 2) rfl (by kernel_rfl) (by kernel_rfl) (by kernel_rfl) rfl rfl (Qt.index Tryd.underlying44 Tryd.cells23 rfl rfl (by omega) (Has.ro hA) (by rw [hcs_length]; omega)) ?_
      refine D.qX (k := 3) rfl (by kernel_rfl) (by kernel_rfl) (by kernel_rfl) rfl rfl (Qt.load rfl (Ld.hashS (Has.ro hA) k Tryd.row23 Tryd.cells23 (by omega) rfl)) ?_
      refine D.qX (k := 4) rfl (by kernel_rfl) (by kernel_rfl) (by kernel_rfl) rfl rfl (Qt.move (by conv => lhs; whnf)) ?_
      refine D.qX (k := 5) rfl (by kernel_rfl) (by kernel_rfl) (by kernel_rfl) rfl rfl (Qt.move (by conv => lhs; whnf)) ?_
      refine D.qX (k := 6) rfl (by kernel_rfl) (by kernel_rfl) (by kernel_rfl) rfl rfl (Qt.index Tryd.underlying44 Tryd.cells23 rfl rfl (by omega) (Has.ro hB) (by rw [hcs_length]; omega)) ?_
      refine D.qX (k := 7) rfl (by kernel_rfl) (by kernel_rfl) (by kernel_rfl) rfl rfl (Qt.load rfl (Ld.hashS (Has.ro hB) k Tryd.row23 Tryd.cells23 (by omega) rfl)) ?_
      refine D.decX (k := 8) rfl (by kernel_rfl) (by kernel_rfl) (by kernel_rfl) rfl rfl (Qt.neH (a := xs.getD k zeroH) (b := ys.getD k zeroH) Tryd.guard23 Tryd.underlying23 Tryd.underlying5 Tryd.cells5 rfl rfl) (fun h24 => ?_) (fun h24 => ?_)
      · refine D.done (Sub.refl _) (by kernel_rfl) ?_
        refine S.if_t rfl ?_
        refine TC.seq ?_
        refine TC.region ?_
        refine S.q rfl rfl (Qt.assign (by conv => lhs; whnf)) ?_
        refine S.nil ?_
        refine TC.ret ?_
        refine finQ.ret (RVs.tmp (by conv => lhs; whnf) RVs.nil) (Sub.nil _) ?_
        exact ⟨(congrArg Value.bool (decide_eq_false (fun e => h24 (by rw [e])))).symm, rfl⟩
      · refine D.done (Sub.refl _) (by kernel_rfl) ?_
        refine S.if_f rfl ?_
        refine TC.skip ?_
        refine TC.region ?_
        refine S.q rfl rfl (Qt.add (b := 1) rfl rfl (by simp only [kmax]; omega)) ?_
        refine S.q rfl rfl (Qt.move (by conv => lhs; whnf)) ?_
        refine S.nil ?_
        refine ⟨k + 1, ?_, ?_, ⟨?_, (List.forall_mem_cons.2 ⟨rfl, (fun _ h => nomatch h)⟩)⟩, Sub.refl _⟩
        · exact ⟨by show _ ≤ _; omega, fun j hj => (Nat.lt_or_ge j k).elim (hq j) (fun h => by (obtain rfl : j = k := by omega); exact Decidable.not_not.1 h24)⟩
        · show _ < _; dsimp only; omega
        repeat (first | exact Out.refl _ _ | refine Out.put rfl ?_ | refine Out.puts rfl ?_ | refine Out.scr ?_ | refine Out.scr' rfl ?_)
    · refine S.nil ?_
      refine TC.seq ?_
      refine S.if_f rfl ?_
      refine TC.exit ?_
      refine TC.seq ?_
      refine TC.region ?_
      refine S.q rfl rfl (Qt.assign (by conv => lhs; whnf)) ?_
      refine S.nil ?_
      refine TC.ret ?_
      refine finQ.ret (RVs.tmp (by conv => lhs; whnf) RVs.nil) (Sub.nil _) ?_
      refine ⟨(congrArg Value.bool (decide_eq_true ?_)).symm, rfl⟩
      refine List.ext_getElem (by omega) fun j h1 h2 => ?_
      have h3 := hq j (by omega)
      rwa [getD_eq zeroH h1, getD_eq zeroH h2] at h3
theorem hashesG_R (A : Option Addr) (c : Nat) (xs : List H32) (B : Option Addr) (d : Nat) (ys : List H32) (hx : xs.length ≤ 65536) (w0 : World) (hA : Ro w0 [] (SlA A (hcs xs))) (hB : Ro w0 [] (SlA B (hcs ys))) : Calls Tryd.prog 37 #[.slice A xs.length c, .slice B ys.length d] w0 (Ret w0 (.bool (decide (xs = ys)))) := Calls.ret (hashesG_walk A c xs B d ys hx w0 hA hB)
theorem hashesG_T (A : Option Addr) (c : Nat) (xs : List H32) (B : Option Addr) (d : Nat) (ys : List H32) (hx : xs.length ≤ 65536) (h : (xs = ys)) (w0 : World) (hA : Ro w0 [] (SlA A (hcs xs))) (hB : Ro w0 [] (SlA B (hcs ys))) : Calls Tryd.prog 37 #[.slice A xs.length c, .slice B ys.length d] w0 (Ret w0 (.bool true)) := by
  have k := hashesG_R A c xs B d ys hx w0 hA hB
  rwa [decide_eq_true h] at k
theorem hashesG_F (A : Option Addr) (c : Nat) (xs : List H32) (B : Option Addr) (d : Nat) (ys : List H32) (hx : xs.length ≤ 65536) (h : ¬ (xs = ys)) (w0 : World) (hA : Ro w0 [] (SlA A (hcs xs))) (hB : Ro w0 [] (SlA B (hcs ys))) : Calls Tryd.prog 37 #[.slice A xs.length c, .slice B ys.length d] w0 (Ret w0 (.bool false)) := by
  have k := hashesG_R A c xs B d ys hx w0 hA hB
  rwa [decide_eq_false h] at k

set_option maxHeartbeats 800000 in
theorem collide_walk (O : Option Addr) (d : Nat) (tt : List Tx) (hn : tt.length ≤ 65536) (h66 : ∀ t ∈ tt, t.2.2.length = 66) (hcol : Collides (tt.map (fun t => t.2.2))) (w0 : World) (hX : Ro w0 [] (SlA O (tt.flatMap txL))) (hM : ∀ t ∈ tt, Ro w0 [] (SlA t.1 (bytesL t.2.2))) (hT : Tabs 2 0 w0 []) :
    Calls Tryd.prog 62 #[.slice O tt.length d] w0 (Post w0 [] fun v L => v = .bool true ∧ L = []) := by
  refine Calls.of (L := []) (n := 36) (rs := [.tmp 2]) Tryd.func62 rfl rfl rfl (Nat.le_of_ble_eq_true rfl) (Sat.nil _) ?_
  refine TC.seq ?_
  refine TC.region ?_
  refine S.q rfl rfl (Qt.assign (by conv => lhs; whnf)) ?_
  refine S.nil ?_
  refine TC.seq ?_
  refine TC.region ?_
  refine S.opS rfl rfl (OpV.makeMap (enc := hv) (encv := strV) (fun mb => ?_))
  refine S.q rfl rfl (Qt.assign (by conv => lhs; whnf)) ?_
  refine S.nil ?_
  refine TC.seq ?_
  refine TC.seq ?_
  refine TC.region ?_
  refine S.q rfl rfl (Qt.move (by conv => lhs; whnf)) ?_
  refine S.q rfl rfl (Qt.len_slice Tryd.underlying91 rfl) ?_
  refine S.q rfl rfl (Qt.move (by conv => lhs; whnf)) ?_
  refine S.nil ?_
  refine TC.block ?_
  refine TC.loop (γ := Nat × List (H32 × List UInt8)) [13, 14, 15, 5, 16, 17, 6, 19, 20, 21, 18, 22, 23, 7, 8, 24, 25, 26, 27, 28, 29, 30, 2, 31, 32, 33, 34, 35, 12] (fun g => [(12, .int .i64 ((g.1 : Nat) : Int))]) (fun g => [MapA mb hv strV g.2]) (fun g => g.1 ≤ tt.length ∧ KnownTo (tt.map (fun t => t.2.2)) g.2 g.1) (fun g => tt.length - g.1) ((0, []))
    ⟨Nat.zero_le _, KnownTo.zero _⟩ ⟨Out.refl _ _, (List.forall_mem_cons.2 ⟨rfl, (fun _ h => nomatch h)⟩)⟩ (Sub.refl _) ?_
  rintro ⟨k, ms⟩ u ⟨hk, hkn⟩
  dsimp only at hk hkn
  refine TC.seq ?_
  refine TC.region ?_
  refine S.dec rfl rfl (Qt.lt rfl rfl) (fun h13 => ?_) (fun h13 => ?_)
  · refine S.nil ?_
    refine TC.seq ?_
    refine S.if_t rfl ?_
    refine TC.skip ?_
    refine TC.seq ?_
    refine TC.block ?_
    refine TC.seq ?_
    refine TC.region ?_
    have hgk : ((tt.map (fun t => t.2.2)).getD k []) = (tt.getD k (none, 0, [])).2.2 := tx_getD h13
    have hlen := h66 _ (tx_mem h13)
    refine S.q rfl rfl (Qt.index Tryd.underlying91 Tryd.cells101 rfl rfl (by omega) (Has.ro hX) (by rw [txL_len]; omega)) ?_
    refine S.q rfl rfl (Qt.load rfl (Ld.sl (v := .slice (tt.getD k (none, 0, [])).1 (tt.getD k (none, 0, [])).2.2.length (tt.getD k (none, 0, [])).2.1) (Has.ro hX) Tryd.one101 (txL_at h13))) ?_
    refine S.q rfl rfl (Qt.assign (by conv => lhs; whnf)) ?_
    refine S.nil ?_
    refine TC.seq ?_
    refine TC.region ?_
    refine S.q rfl rfl (Qt.move (by conv => lhs; whnf)) ?_
    refine S.opS rfl rfl (OpV.con0 Tryd.ent109 rfl (fun w hw => Calls.ret (sum_walk (tt.getD k (none, 0, [])).1 (tt.getD k (none, 0, [])).2.1 (tt.getD k (none, 0, [])).2.2 w (Rd.ro (hM _ (tx_mem h13)) w hw) (by rw [hlen]; decide) (hT.at hw))) ?_)
    refine S.opS rfl rfl (OpV.alloc Tryd.zero23 (fun b6 => ?_))
    refine S.opN rfl (OpV.storeV0 (v := hv (_)) rfl rfl (hv_size Tryd.cells23) (hv_all _) (hv_len _) ?_)
    refine S.nil ?_
    refine TC.seq ?_
    refine TC.seq ?_
    refine TC.region ?_
    refine S.q rfl rfl (Qt.move (by conv => lhs; whnf)) ?_
    refine S.q rfl rfl (Qt.load rfl (Ld.hash1 (x := shaH (tt.getD k (none, 0, [])).2.2) (Has.at 0 rfl) Tryd.row23 Tryd.cells23)) ?_
    rcases hlk : Go.E.look (shaH (tt.getD k (none, 0, [])).2.2) ms with _ | u
    · refine S.q rfl rfl (Qt.as (Qt.lookup_ok (k := shaH (tt.getD k (none, 0, [])).2.2) (encv := strV) Tryd.underlying178 Tryd.keyH Tryd.zv9 rfl rfl (Has.at 1 rfl)) (show _ = Value.tuple #[.string ⟨#[]⟩, .bool false] by rw [hlk]; rfl)) ?_
      refine S.q rfl rfl (Qt.move (by conv => lhs; whnf)) ?_
      refine S.q rfl rfl (Qt.extract rfl rfl) ?_
      refine S.q rfl rfl (Qt.extract rfl rfl) ?_
      refine S.q rfl rfl (Qt.assign (by conv => lhs; whnf)) ?_
      refine S.q rfl rfl (Qt.assign (by conv => lhs; whnf)) ?_
      refine S.nil ?_
      refine TC.seq ?_
      refine TC.region ?_
      refine S.q rfl rfl (Qt.move (by conv => lhs; whnf)) ?_
      refine S.q rfl rfl (Qt.move (by conv => lhs; whnf)) ?_
      refine S.pass rfl rfl ?_
      refine S.pass rfl rfl ?_
      refine S.pass rfl rfl ?_
      refine S.pass rfl rfl ?_
      refine S.q rfl rfl (Qt.pick_f rfl (by conv => lhs; whnf)) ?_
      refine S.nil ?_
      refine S.if_f rfl ?_
      refine TC.skip ?_
      refine TC.region ?_
      refine S.q rfl rfl (Qt.move (by conv => lhs; whnf)) ?_
      refine S.q rfl rfl (Qt.load rfl (Ld.hash1 (x := shaH (tt.getD k (none, 0, [])).2.2) (Has.at 0 rfl) Tryd.row23 Tryd.cells23)) ?_
      refine S.q rfl rfl (Qt.move (by conv => lhs; whnf)) ?_
      refine S.q rfl rfl (Qt.bytesStr (bs := (tt.getD k (none, 0, [])).2.2) Tryd.underlying101 Tryd.underlying5 Tryd.underlying9 rfl rfl (by rw [hlen]; decide) (Has.ro (hM _ (tx_mem h13)))) ?_
      refine S.opN rfl (OpV.mapUpd1 (k := shaH (tt.getD k (none, 0, [])).2.2) (a := (tt.getD k (none, 0, [])).2.2) Tryd.underlying178 Tryd.keyH rfl rfl rfl ?_)
      refine S.nil ?_
      refine TC.region ?_
      refine S.q rfl rfl (Qt.add (b := 1) rfl rfl (by simp only [kmax]; omega)) ?_
      refine S.q rfl rfl (Qt.move (by conv => lhs; whnf)) ?_
      refine S.nil ?_
      refine ⟨(k + 1, updR (shaH (tt.getD k (none, 0, [])).2.2) (tt.getD k (none, 0, [])).2.2 ms), ?_, ?_, ⟨?_, (List.forall_mem_cons.2 ⟨rfl, (fun _ h => nomatch h)⟩)⟩, Sub.trans (Sub.keep _ (Sub.drop _ (Sub.nil []))) (Sub.trans (Sub.keep _ (Sub.refl _)) (Sub.of_perm (List.perm_middle (l₁ := [_]))))⟩
      · exact ⟨by show _ ≤ _; dsimp only; omega, by have q := hkn.step (KnownTo.look_none (by rw [hgk]; exact hlk)); rwa [hgk] at q⟩
      · show _ < _; dsimp only; omega
      repeat (first | exact Out.refl _ _ | refine Out.put rfl ?_ | refine Out.puts rfl ?_ | refine Out.scr ?_ | refine Out.scr' rfl ?_)
    · refine S.q rfl rfl (Qt.as (Qt.lookup_ok (k := shaH (tt.getD k (none, 0, [])).2.2) (encv := strV) Tryd.underlying178 Tryd.keyH Tryd.zv9 rfl rfl (Has.at 1 rfl)) (show _ = Value.tuple #[.string ⟨u.toArray⟩, .bool true] by rw [hlk]; rfl)) ?_
      refine S.q rfl rfl (Qt.move (by conv => lhs; whnf)) ?_
      refine S.q rfl rfl (Qt.extract rfl rfl) ?_
      refine S.q rfl rfl (Qt.extract rfl rfl) ?_
      refine S.q rfl rfl (Qt.assign (by conv => lhs; whnf)) ?_
      refine S.q rfl rfl (Qt.assign (by conv => lhs; whnf)) ?_
      refine S.nil ?_
      refine TC.seq ?_
      refine TC.region ?_
      refine S.q rfl rfl (Qt.move (by conv => lhs; whnf)) ?_
      refine S.q rfl rfl (Qt.move (by conv => lhs; whnf)) ?_
      refine S.qg rfl rfl rfl (Qt.move (by conv => lhs; whnf)) ?_
      refine S.qg rfl rfl rfl (Qt.move (by conv => lhs; whnf)) ?_
      refine S.qg rfl rfl rfl (Qt.bytesStr (bs := (tt.getD k (none, 0, [])).2.2) Tryd.underlying101 Tryd.underlying5 Tryd.underlying9 rfl rfl (by rw [hlen]; decide) (Has.ro (hM _ (tx_mem h13)))) ?_
      refine S.decg rfl rfl rfl (Qt.neStr (s := u) (t := (tt.getD k (none, 0, [])).2.2) rfl rfl) (fun h29 => ?_) (fun h29 => ?_)
      · refine S.q rfl rfl (Qt.pick_t rfl (by conv => lhs; whnf)) ?_
        refine S.nil ?_
        refine S.if_t rfl ?_
        refine TC.seq ?_
        refine TC.region ?_
        refine S.q rfl rfl (Qt.assign (by conv => lhs; whnf)) ?_
        refine S.nil ?_
        refine TC.ret ?_
        refine finQ.ret (RVs.tmp (by conv => lhs; whnf) RVs.nil) (Sub.nil _) ?_
        exact ⟨rfl, rfl⟩
      · refine S.q rfl rfl (Qt.pick_t rfl (by conv => lhs; whnf)) ?_
        refine S.nil ?_
        refine S.if_f rfl ?_
        refine TC.skip ?_
        refine TC.region ?_
        refine S.q rfl rfl (Qt.move (by conv => lhs; whnf)) ?_
        refine S.q rfl rfl (Qt.load rfl (Ld.hash1 (x := shaH (tt.getD k (none, 0, [])).2.2) (Has.at 0 rfl) Tryd.row23 Tryd.cells23)) ?_
        refine S.q rfl rfl (Qt.move (by conv => lhs; whnf)) ?_
        refine S.q rfl rfl (Qt.bytesStr (bs := (tt.getD k (none, 0, [])).2.2) Tryd.underlying101 Tryd.underlying5 Tryd.underlying9 rfl rfl (by rw [hlen]; decide) (Has.ro (hM _ (tx_mem h13)))) ?_
        refine S.opN rfl (OpV.mapUpd1 (k := shaH (tt.getD k (none, 0, [])).2.2) (a := (tt.getD k (none, 0, [])).2.2) Tryd.underlying178 Tryd.keyH rfl rfl rfl ?_)
        refine S.nil ?_
        refine TC.region ?_
        refine S.q rfl rfl (Qt.add (b := 1) rfl rfl (by simp only [kmax]; omega)) ?_
        refine S.q rfl rfl (Qt.move (by conv => lhs; whnf)) ?_
        refine S.nil ?_
        refine ⟨(k + 1, updR (shaH (tt.getD k (none, 0, [])).2.2) (tt.getD k (none, 0, [])).2.2 ms), ?_, ?_, ⟨?_, (List.forall_mem_cons.2 ⟨rfl, (fun _ h => nomatch h)⟩)⟩, Sub.trans (Sub.keep _ (Sub.drop _ (Sub.nil []))) (Sub.trans (Sub.keep _ (Sub.refl _)) (Sub.of_perm (List.perm_middle (l₁ := [_]))))⟩
        · exact ⟨by show _ ≤ _; dsimp only; omega, by have q := hkn.step (KnownTo.look_same (by rw [hgk]; exact hlk) (by rw [hgk]; exact Decidable.not_not.1 h29)); rwa [hgk] at q⟩
        · show _ < _; dsimp only; omega
        repeat (first | exact Out.refl _ _ | refine Out.put rfl ?_ | refine Out.puts rfl ?_ | refine Out.scr ?_ | refine Out.scr' rfl ?_)
  · refine S.nil ?_
    refine TC.seq ?_
    refine S.if_f rfl ?_
    refine TC.exit ?_
    refine TC.seq ?_
    refine TC.region ?_
    refine S.q rfl rfl (Qt.assign (by conv => lhs; whnf)) ?_
    refine S.nil ?_
    refine TC.ret ?_
    refine finQ.ret (RVs.tmp (by conv => lhs; whnf) RVs.nil) (Sub.nil _) ?_
    exact absurd hcol (KnownTo.none (by rw [List.length_map]; (obtain rfl : k = tt.length := by omega); exact hkn))
set_option maxHeartbeats 1600000 in
theorem law11_walkE1 (E : Nat → H32) (hEm : ∀ w, Tabs 2 0 w [] → Calls Tryd.prog 88 #[] w (Ret w (.agg (hcs (emptL E)).toArray))) (hE : ∀ h, E (h + 1) = joinH (h + 1) (E h) (E h)) (z : Int) (A : Option Addr) (c : Nat) (xs : List Nat) (hc : xs.length ≤ c) (B : Option Addr) (b : Nat) (ls : List H32) (Z : Option Addr) (e : Nat) (bs : List H32) (B' : Option Addr) (b' : Nat) (ls' : List H32) (Z' : Option Addr) (e' : Nat) (bs' : List H32) (g1 : largeP xs.length ls.length bs.length) (w0 : World)  (hT : Tabs 2 0 w0 []) :
    Calls Tryd.prog 11 #[.int .i64 z, .slice A xs.length c, .agg #[.slice B ls.length b, .slice Z bs.length e, .slice B' ls'.length b', .slice Z' bs'.length e']] w0 (Post w0 [] fun v L => v = .bool true ∧ L = []) := by
  refine Calls.of (L := []) (n := 111) (rs := [.tmp 6]) Tryd.func11 rfl rfl rfl (Nat.le_of_ble_eq_true rfl) (Sat.nil _) ?_
  refine TC.seq ?_
  refine TC.region ?_
  refine S.opS rfl rfl (OpV.box (v := .agg #[.slice B ls.length b, .slice Z bs.length e, .slice B' ls'.length b', .slice Z' bs'.length e']) rfl (fun b5 => ?_))
  refine S.q rfl rfl (Qt.assign (by conv => lhs; whnf)) ?_
  refine S.nil ?_
  refine TC.seq ?_
  refine TC.seq ?_
  refine TC.region ?_
  refine S.opS rfl rfl (OpV.con0 Tryd.ent56 rfl (fun w hw => Calls.ret (alive10_walk E hEm hE w (hT.at hw))) ?_)
  refine S.q rfl rfl (Qt.not_t rfl) ?_
  refine S.nil ?_
  refine S.if_f rfl ?_
  refine TC.skip ?_
  refine TC.seq ?_
  refine TC.seq ?_
  refine TC.region ?_
  refine S.q rfl rfl (Qt.move (by conv => lhs; whnf)) ?_
  refine S.q rfl rfl (Qt.indexB (i := 0) Tryd.underlying105 Tryd.cells44 rfl rfl (by omega)) ?_
  refine S.q rfl rfl (Qt.load rfl (Ld.one (v := .slice B ls.length b) (Has.at 0 rfl) Tryd.one44 rfl)) ?_
  refine S.q rfl rfl (Qt.indexB (i := 1) Tryd.underlying105 Tryd.cells44 rfl rfl (by omega)) ?_
  refine S.q rfl rfl (Qt.load rfl (Ld.one (v := .slice Z bs.length e) (Has.at 0 rfl) Tryd.one44 rfl)) ?_
  refine S.opS rfl rfl (OpV.con0 Tryd.ent52 rfl (fun w hw => large_T A xs.length c B ls.length b Z bs.length e g1 w) ?_)
  refine S.q rfl rfl (Qt.move (by conv => lhs; whnf)) ?_
  refine S.pass rfl rfl ?_
  refine S.pass rfl rfl ?_
  refine S.pass rfl rfl ?_
  refine S.pass rfl rfl ?_
  refine S.pass rfl rfl ?_
  refine S.pass rfl rfl ?_
  refine S.q rfl rfl (Qt.pick_t rfl (by conv => lhs; whnf)) ?_
  refine S.q rfl rfl (Qt.move (by conv => lhs; whnf)) ?_
  refine S.pass rfl rfl ?_
  refine S.pass rfl rfl ?_
  refine S.pass rfl rfl ?_
  refine S.q rfl rfl (Qt.pick_t rfl (by conv => lhs; whnf)) ?_
  refine S.nil ?_
  refine S.if_t rfl ?_
  refine TC.seq ?_
  refine TC.region ?_
  refine S.q rfl rfl (Qt.assign (by conv => lhs; whnf)) ?_
  refine S.nil ?_
  refine TC.ret ?_
  refine finQ.ret (RVs.tmp (by conv => lhs; whnf) RVs.nil) (Sub.nil _) ?_
  exact ⟨rfl, rfl⟩
set_option maxHeartbeats 1600000 in
theorem law11_walkE2 (E : Nat → H32) (hEm : ∀ w, Tabs 2 0 w [] → Calls Tryd.prog 88 #[] w (Ret w (.agg (hcs (emptL E)).toArray))) (hE : ∀ h, E (h + 1) = joinH (h + 1) (E h) (E h)) (z : Int) (A : Option Addr) (c : Nat) (xs : List Nat) (hc : xs.length ≤ c) (B : Option Addr) (b : Nat) (ls : List H32) (Z : Option Addr) (e : Nat) (bs : List H32) (B' : Option Addr) (b' : Nat) (ls' : List H32) (Z' : Option Addr) (e' : Nat) (bs' : List H32) (g1 : ¬ largeP xs.length ls.length bs.length) (g2 : largeP xs.length ls'.length bs'.length) (w0 : World)  (hT : Tabs 2 0 w0 []) :
    Calls Tryd.prog 11 #[.int .i64 z, .slice A xs.length c, .agg #[.slice B ls.length b, .slice Z bs.length e, .slice B' ls'.length b', .slice Z' bs'.length e']] w0 (Post w0 [] fun v L => v = .bool true ∧ L = []) := by
  refine Calls.of (L := []) (n := 111) (rs := [.tmp 6]) Tryd.func11 rfl rfl rfl (Nat.le_of_ble_eq_true rfl) (Sat.nil _) ?_
  refine TC.seq ?_
  refine TC.region ?_
  refine S.opS rfl rfl (OpV.box (v := .agg #[.slice B ls.length b, .slice Z bs.length e, .slice B' ls'.length b', .slice Z' bs'.length e']) rfl (fun b5 => ?_))
  refine S.q rfl rfl (Qt.assign (by conv => lhs; whnf)) ?_
  refine S.nil ?_
  refine TC.seq ?_
  refine TC.seq ?_
  refine TC.region ?_
  refine S.opS rfl rfl (OpV.con0 Tryd.ent56 rfl (fun w hw => Calls.ret (alive10_walk E hEm hE w (hT.at hw))) ?_)
  refine S.q rfl rfl (Qt.not_t rfl) ?_
  refine S.nil ?_
  refine S.if_f rfl ?_
  refine TC.skip ?_
  refine TC.seq ?_
  refine TC.seq ?_
  refine TC.region ?_
  refine S.q rfl rfl (Qt.move (by conv => lhs; whnf)) ?_
  refine S.q rfl rfl (Qt.indexB (i := 0) Tryd.underlying105 Tryd.cells44 rfl rfl (by omega)) ?_
  refine S.q rfl rfl (Qt.load rfl (Ld.one (v := .slice B ls.length b) (Has.at 0 rfl) Tryd.one44 rfl)) ?_
  refine S.q rfl rfl (Qt.indexB (i := 1) Tryd.underlying105 Tryd.cells44 rfl rfl (by omega)) ?_
  refine S.q rfl rfl (Qt.load rfl (Ld.one (v := .slice Z bs.length e) (Has.at 0 rfl) Tryd.one44 rfl)) ?_
  refine S.opS rfl rfl (OpV.con0 Tryd.ent52 rfl (fun w hw => large_F A xs.length c B ls.length b Z bs.length e g1 w) ?_)
  refine S.q rfl rfl (Qt.move (by conv => lhs; whnf)) ?_
  refine S.qg rfl rfl rfl (Qt.move (by conv => lhs; whnf)) ?_
  refine S.qg rfl rfl rfl (Qt.indexB (i := 2) Tryd.underlying105 Tryd.cells44 rfl rfl (by omega)) ?_
  refine S.qg rfl rfl rfl (Qt.load rfl (Ld.one (v := .slice B' ls'.length b') (Has.at 0 rfl) Tryd.one44 rfl)) ?_
  refine S.qg rfl rfl rfl (Qt.indexB (i := 3) Tryd.underlying105 Tryd.cells44 rfl rfl (by omega)) ?_
  refine S.qg rfl rfl rfl (Qt.load rfl (Ld.one (v := .slice Z' bs'.length e') (Has.at 0 rfl) Tryd.one44 rfl)) ?_
  refine S.opg rfl rfl rfl (OpV.con0 Tryd.ent52 rfl (fun w hw => large_T A xs.length c B' ls'.length b' Z' bs'.length e' g2 w) ?_)
  refine S.q rfl rfl (Qt.pick_f rfl (by conv => lhs; whnf)) ?_
  refine S.q rfl rfl (Qt.move (by conv => lhs; whnf)) ?_
  refine S.pass rfl rfl ?_
  refine S.pass rfl rfl ?_
  refine S.pass rfl rfl ?_
  refine S.q rfl rfl (Qt.pick_t rfl (by conv => lhs; whnf)) ?_
  refine S.nil ?_
  refine S.if_t rfl ?_
  refine TC.seq ?_
  refine TC.region ?_
  refine S.q rfl rfl (Qt.assign (by conv => lhs; whnf)) ?_
  refine S.nil ?_
  refine TC.ret ?_
  refine finQ.ret (RVs.tmp (by conv => lhs; whnf) RVs.nil) (Sub.nil _) ?_
  exact ⟨rfl, rfl⟩
set_option maxHeartbeats 1600000 in
theorem law11_walkE3 (E : Nat → H32) (hEm : ∀ w, Tabs 2 0 w [] → Calls Tryd.prog 88 #[] w (Ret w (.agg (hcs (emptL E)).toArray))) (hE : ∀ h, E (h + 1) = joinH (h + 1) (E h) (E h)) (z : Int) (A : Option Addr) (c : Nat) (xs : List Nat) (hc : xs.length ≤ c) (B : Option Addr) (b : Nat) (ls : List H32) (Z : Option Addr) (e : Nat) (bs : List H32) (B' : Option Addr) (b' : Nat) (ls' : List H32) (Z' : Option Addr) (e' : Nat) (bs' : List H32) (g1 : ¬ largeP xs.length ls.length bs.length) (g2 : ¬ largeP xs.length ls'.length bs'.length) (g3 : 40 < xs.length) (w0 : World)  (hT : Tabs 2 0 w0 []) :
    Calls Tryd.prog 11 #[.int .i64 z, .slice A xs.length c, .agg #[.slice B ls.length b, .slice Z bs.length e, .slice B' ls'.length b', .slice Z' bs'.length e']] w0 (Post w0 [] fun v L => v = .bool true ∧ L = []) := by
  refine Calls.of (L := []) (n := 111) (rs := [.tmp 6]) Tryd.func11 rfl rfl rfl (Nat.le_of_ble_eq_true rfl) (Sat.nil _) ?_
  refine TC.seq ?_
  refine TC.region ?_
  refine S.opS rfl rfl (OpV.box (v := .agg #[.slice B ls.length b, .slice Z bs.length e, .slice B' ls'.length b', .slice Z' bs'.length e']) rfl (fun b5 => ?_))
  refine S.q rfl rfl (Qt.assign (by conv => lhs; whnf)) ?_
  refine S.nil ?_
  refine TC.seq ?_
  refine TC.seq ?_
  refine TC.region ?_
  refine S.opS rfl rfl (OpV.con0 Tryd.ent56 rfl (fun w hw => Calls.ret (alive10_walk E hEm hE w (hT.at hw))) ?_)
  refine S.q rfl rfl (Qt.not_t rfl) ?_
  refine S.nil ?_
  refine S.if_f rfl ?_
  refine TC.skip ?_
  refine TC.seq ?_
  refine TC.seq ?_
  refine TC.region ?_
  refine S.q rfl rfl (Qt.move (by conv => lhs; whnf)) ?_
  refine S.q rfl rfl (Qt.indexB (i := 0) Tryd.underlying105 Tryd.cells44 rfl rfl (by omega)) ?_
  refine S.q rfl rfl (Qt.load rfl (Ld.one (v := .slice B ls.length b) (Has.at 0 rfl) Tryd.one44 rfl)) ?_
  refine S.q rfl rfl (Qt.indexB (i := 1) Tryd.underlying105 Tryd.cells44 rfl rfl (by omega)) ?_
  refine S.q rfl rfl (Qt.load rfl (Ld.one (v := .slice Z bs.length e) (Has.at 0 rfl) Tryd.one44 rfl)) ?_
  refine S.opS rfl rfl (OpV.con0 Tryd.ent52 rfl (fun w hw => large_F A xs.length c B ls.length b Z bs.length e g1 w) ?_)
  refine S.q rfl rfl (Qt.move (by conv => lhs; whnf)) ?_
  refine S.qg rfl rfl rfl (Qt.move (by conv => lhs; whnf)) ?_
  refine S.qg rfl rfl rfl (Qt.indexB (i := 2) Tryd.underlying105 Tryd.cells44 rfl rfl (by omega)) ?_
  refine S.qg rfl rfl rfl (Qt.load rfl (Ld.one (v := .slice B' ls'.length b') (Has.at 0 rfl) Tryd.one44 rfl)) ?_
  refine S.qg rfl rfl rfl (Qt.indexB (i := 3) Tryd.underlying105 Tryd.cells44 rfl rfl (by omega)) ?_
  refine S.qg rfl rfl rfl (Qt.load rfl (Ld.one (v := .slice Z' bs'.length e') (Has.at 0 rfl) Tryd.one44 rfl)) ?_
  refine S.opg rfl rfl rfl (OpV.con0 Tryd.ent52 rfl (fun w hw => large_F A xs.length c B' ls'.length b' Z' bs'.length e' g2 w) ?_)
  refine S.q rfl rfl (Qt.pick_f rfl (by conv => lhs; whnf)) ?_
  refine S.q rfl rfl (Qt.move (by conv => lhs; whnf)) ?_
  refine S.qg rfl rfl rfl (Qt.move (by conv => lhs; whnf)) ?_
  refine S.qg rfl rfl rfl (Qt.len_slice Tryd.underlying71 rfl) ?_
  refine S.qg rfl rfl rfl (Qt.dT (Qt.gt (b := 40) rfl rfl) (by omega)) ?_
  refine S.q rfl rfl (Qt.pick_f rfl (by conv => lhs; whnf)) ?_
  refine S.nil ?_
  refine S.if_t rfl ?_
  refine TC.seq ?_
  refine TC.region ?_
  refine S.q rfl rfl (Qt.assign (by conv => lhs; whnf)) ?_
  refine S.nil ?_
  refine TC.ret ?_
  refine finQ.ret (RVs.tmp (by conv => lhs; whnf) RVs.nil) (Sub.nil _) ?_
  exact ⟨rfl, rfl⟩
set_option maxHeartbeats 3200000 in
theorem law11_walk (E : Nat → H32) (hEm : ∀ w, Tabs 2 0 w [] → Calls Tryd.prog 88 #[] w (Ret w (.agg (hcs (emptL E)).toArray))) (hE : ∀ h, E (h + 1) = joinH (h + 1) (E h) (E h)) (z : Int) (A : Option Addr) (c : Nat) (xs : List Nat) (hc : xs.length ≤ c) (B : Option Addr) (b : Nat) (ls : List H32) (Z : Option Addr) (e : Nat) (bs : List H32) (B' : Option Addr) (b' : Nat) (ls' : List H32) (Z' : Option Addr) (e' : Nat) (bs' : List H32) (g1 : ¬ largeP xs.length ls.length bs.length) (g2 : ¬ largeP xs.length ls'.length bs'.length) (g3 : xs.length ≤ 40) (hb : ls.length ≤ b) (hbs : bs.length ≤ e) (hb' : ls'.length ≤ b') (hbs' : bs'.length ≤ e') (w0 : World) (hlow : ∀ x ∈ xs, x < 18446744073709551616) (hR : Ro w0 [] (SlA A (u64s xs))) (hB : Ro w0 [] (SlA B (hcs ls))) (hD : Ro w0 [] (SlA Z (hcs bs))) (hB' : Ro w0 [] (SlA B' (hcs ls'))) (hD' : Ro w0 [] (SlA Z' (hcs bs'))) (hT : Tabs 2 0 w0 []) :
    Calls Tryd.prog 11 #[.int .i64 z, .slice A xs.length c, .agg #[.slice B ls.length b, .slice Z bs.length e, .slice B' ls'.length b', .slice Z' bs'.length e']] w0 (Post w0 [] fun v L => v = .bool true ∧ L = []) := by
  refine Calls.of (L := []) (n := 111) (rs := [.tmp 6]) Tryd.func11 rfl rfl rfl (Nat.le_of_ble_eq_true rfl) (Sat.nil _) ?_
  have u1 : ls.length ≤ 300 ∧ bs.length ≤ 1500 := by unfold largeP at g1; omega
  have u2 : ls'.length ≤ 300 ∧ bs'.length ≤ 1500 := by unfold largeP at g2; omega
  refine TC.seq ?_
  refine TC.region ?_
  refine S.opS rfl rfl (OpV.box (v := .agg #[.slice B ls.length b, .slice Z bs.length e, .slice B' ls'.length b', .slice Z' bs'.length e']) rfl (fun b5 => ?_))
  refine S.q rfl rfl (Qt.assign (by conv => lhs; whnf)) ?_
  refine S.nil ?_
  refine TC.seq ?_
  refine TC.seq ?_
  refine TC.region ?_
  refine S.opS rfl rfl (OpV.con0 Tryd.ent56 rfl (fun w hw => Calls.ret (alive10_walk E hEm hE w (hT.at hw))) ?_)
  refine S.q rfl rfl (Qt.not_t rfl) ?_
  refine S.nil ?_
  refine S.if_f rfl ?_
  refine TC.skip ?_
  refine TC.seq ?_
  refine TC.seq ?_
  refine TC.region ?_
  refine S.q rfl rfl (Qt.move (by conv => lhs; whnf)) ?_
  refine S.q rfl rfl (Qt.indexB (i := 0) Tryd.underlying105 Tryd.cells44 rfl rfl (by omega)) ?_
  refine S.q rfl rfl (Qt.load rfl (Ld.one (v := .slice B ls.length b) (Has.at 0 rfl) Tryd.one44 rfl)) ?_
  refine S.q rfl rfl (Qt.indexB (i := 1) Tryd.underlying105 Tryd.cells44 rfl rfl (by omega)) ?_
  refine S.q rfl rfl (Qt.load rfl (Ld.one (v := .slice Z bs.length e) (Has.at 0 rfl) Tryd.one44 rfl)) ?_
  refine S.opS rfl rfl (OpV.con0 Tryd.ent52 rfl (fun w hw => large_F A xs.length c B ls.length b Z bs.length e g1 w) ?_)
  refine S.q rfl rfl (Qt.move (by conv => lhs; whnf)) ?_
  refine S.qg rfl rfl rfl (Qt.move (by conv => lhs; whnf)) ?_
  refine S.qg rfl rfl rfl (Qt.indexB (i := 2) Tryd.underlying105 Tryd.cells44 rfl rfl (by omega)) ?_
  refine S.qg rfl rfl rfl (Qt.load rfl (Ld.one (v := .slice B' ls'.length b') (Has.at 0 rfl) Tryd.one44 rfl)) ?_
  refine S.qg rfl rfl rfl (Qt.indexB (i := 3) Tryd.underlying105 Tryd.cells44 rfl rfl (by omega)) ?_
  refine S.qg rfl rfl rfl (Qt.load rfl (Ld.one (v := .slice Z' bs'.length e') (Has.at 0 rfl) Tryd.one44 rfl)) ?_
  refine S.opg rfl rfl rfl (OpV.con0 Tryd.ent52 rfl (fun w hw => large_F A xs.length c B' ls'.length b' Z' bs'.length e' g2 w) ?_)
  refine S.q rfl rfl (Qt.pick_f rfl (by conv => lhs; whnf)) ?_
  refine S.q rfl rfl (Qt.move (by conv => lhs; whnf)) ?_
  refine S.qg rfl rfl rfl (Qt.move (by conv => lhs; whnf)) ?_
  refine S.qg rfl rfl rfl (Qt.len_slice Tryd.underlying71 rfl) ?_
  refine S.qg rfl rfl rfl (Qt.dF (Qt.gt (b := 40) rfl rfl) (by omega)) ?_
  refine S.q rfl rfl (Qt.pick_f rfl (by conv => lhs; whnf)) ?_
  refine S.nil ?_
  refine S.if_f rfl ?_
  refine TC.skip ?_
  refine TC.seq ?_
  refine TC.region ?_
  refine S.q rfl rfl (Qt.move (by conv => lhs; whnf)) ?_
  refine S.q rfl rfl (Qt.move (by conv => lhs; whnf)) ?_
  refine S.q rfl rfl (Qt.indexB (i := 0) Tryd.underlying105 Tryd.cells44 rfl rfl (by omega)) ?_
  refine S.q rfl rfl (Qt.load rfl (Ld.one (v := .slice B ls.length b) (Has.at 0 rfl) Tryd.one44 rfl)) ?_
  refine S.q rfl rfl (Qt.indexB (i := 1) Tryd.underlying105 Tryd.cells44 rfl rfl (by omega)) ?_
  refine S.q rfl rfl (Qt.load rfl (Ld.one (v := .slice Z bs.length e) (Has.at 0 rfl) Tryd.one44 rfl)) ?_
  by_cases q1 : (rootR z xs ls bs).2 = 0
  · refine S.opS rfl rfl (OpV.con0 Tryd.ent57 rfl (fun w hw => (by have q := root10_R z A c xs hc B b ls Z e bs hb hbs w hlow (Rd.ro hR w hw) (Rd.ro hB w hw) (Rd.ro hD w hw) (hT.at hw); rw [q1] at q; exact q : Calls Tryd.prog 57 #[.int .i64 z, .slice A xs.length c, .slice B ls.length b, .slice Z bs.length e] w (Ret w (.tuple #[hv (rootR z xs ls bs).1, .nilIface])))) ?_)
    refine S.q rfl rfl (Qt.move (by conv => lhs; whnf)) ?_
    refine S.q rfl rfl (Qt.extract rfl rfl) ?_
    refine S.q rfl rfl (Qt.extract rfl rfl) ?_
    refine S.opS rfl rfl (OpV.alloc Tryd.zero23 (fun b7 => ?_))
    refine S.opN rfl (OpV.storeV0 (v := hv (_)) rfl rfl (hv_size Tryd.cells23) (hv_all _) (hv_len _) ?_)
    refine S.q rfl rfl (Qt.assign (by conv => lhs; whnf)) ?_
    refine S.nil ?_
    refine TC.seq ?_
    refine TC.region ?_
    refine S.q rfl rfl (Qt.move (by conv => lhs; whnf)) ?_
    refine S.q rfl rfl (Qt.move (by conv => lhs; whnf)) ?_
    refine S.q rfl rfl (Qt.indexB (i := 2) Tryd.underlying105 Tryd.cells44 rfl rfl (by omega)) ?_
    refine S.q rfl rfl (Qt.load rfl (Ld.one (v := .slice B' ls'.length b') (Has.at 1 rfl) Tryd.one44 rfl)) ?_
    refine S.q rfl rfl (Qt.indexB (i := 3) Tryd.underlying105 Tryd.cells44 rfl rfl (by omega)) ?_
    refine S.q rfl rfl (Qt.load rfl (Ld.one (v := .slice Z' bs'.length e') (Has.at 1 rfl) Tryd.one44 rfl)) ?_
    by_cases q2 : (rootR z xs ls' bs').2 = 0
    · refine S.opS rfl rfl (OpV.con0 Tryd.ent57 rfl (fun w hw => (by have q := root10_R z A c xs hc B' b' ls' Z' e' bs' hb' hbs' w hlow (Rd.ro hR w hw) (Rd.ro hB' w hw) (Rd.ro hD' w hw) (hT.at hw); rw [q2] at q; exact q : Calls Tryd.prog 57 #[.int .i64 z, .slice A xs.length c, .slice B' ls'.length b', .slice Z' bs'.length e'] w (Ret w (.tuple #[hv (rootR z xs ls' bs').1, .nilIface])))) ?_)
      refine S.q rfl rfl (Qt.move (by conv => lhs; whnf)) ?_
      refine S.q rfl rfl (Qt.extract rfl rfl) ?_
      refine S.q rfl rfl (Qt.extract rfl rfl) ?_
      refine S.opS rfl rfl (OpV.alloc Tryd.zero23 (fun b9 => ?_))
      refine S.opN rfl (OpV.storeV0 (v := hv (_)) rfl rfl (hv_size Tryd.cells23) (hv_all _) (hv_len _) ?_)
      refine S.q rfl rfl (Qt.assign (by conv => lhs; whnf)) ?_
      refine S.nil ?_
      refine TC.seq ?_
      refine TC.seq ?_
      refine TC.region ?_
      refine S.q rfl rfl (Qt.move (by conv => lhs; whnf)) ?_
      refine S.q rfl rfl (Qt.nenil_nil Tryd.underlying27 rfl) ?_
      refine S.q rfl rfl (Qt.move (by conv => lhs; whnf)) ?_
      refine S.qg rfl rfl rfl (Qt.move (by conv => lhs; whnf)) ?_
      refine S.qg rfl rfl rfl (Qt.nenil_nil Tryd.underlying27 rfl) ?_
      refine S.q rfl rfl (Qt.pick_f rfl (by conv => lhs; whnf)) ?_
      refine S.q rfl rfl (Qt.move (by conv => lhs; whnf)) ?_
      refine S.qg rfl rfl rfl (Qt.load rfl (Ld.hash1 (x := (rootR z xs ls bs).1) (Has.at 1 rfl) Tryd.row23 Tryd.cells23)) ?_
      refine S.qg rfl rfl rfl (Qt.load rfl (Ld.hash1 (x := (rootR z xs ls' bs').1) (Has.at 0 rfl) Tryd.row23 Tryd.cells23)) ?_
      refine S.decg rfl rfl rfl (Qt.neH (a := (rootR z xs ls bs).1) (b := (rootR z xs ls' bs').1) Tryd.guard23 Tryd.underlying23 Tryd.underlying5 Tryd.cells5 rfl rfl) (fun h63 => ?_) (fun h63 => ?_)
      · refine S.q rfl rfl (Qt.pick_f rfl (by conv => lhs; whnf)) ?_
        refine S.q rfl rfl (Qt.move (by conv => lhs; whnf)) ?_
        refine S.pass rfl rfl ?_
        refine S.pass rfl rfl ?_
        refine S.pass rfl rfl ?_
        refine S.pass rfl rfl ?_
        refine S.pass rfl rfl ?_
        refine S.pass rfl rfl ?_
        refine S.pass rfl rfl ?_
        refine S.pass rfl rfl ?_
        refine S.pass rfl rfl ?_
        refine S.pass rfl rfl ?_
        refine S.pass rfl rfl ?_
        refine S.pass rfl rfl ?_
        refine S.q rfl rfl (Qt.pick_t rfl (by conv => lhs; whnf)) ?_
        refine S.nil ?_
        refine S.if_t rfl ?_
        refine TC.seq ?_
        refine TC.region ?_
        refine S.q rfl rfl (Qt.assign (by conv => lhs; whnf)) ?_
        refine S.nil ?_
        refine TC.ret ?_
        refine finQ.ret (RVs.tmp (by conv => lhs; whnf) RVs.nil) (Sub.nil _) ?_
        exact ⟨rfl, rfl⟩
      · refine S.q rfl rfl (Qt.pick_f rfl (by conv => lhs; whnf)) ?_
        refine S.q rfl rfl (Qt.move (by conv => lhs; whnf)) ?_
        refine S.qg rfl rfl rfl (Qt.indexB (i := 0) Tryd.underlying105 Tryd.cells44 rfl rfl (by omega)) ?_
        refine S.qg rfl rfl rfl (Qt.load rfl (Ld.one (v := .slice B ls.length b) (Has.at 2 rfl) Tryd.one44 rfl)) ?_
        refine S.qg rfl rfl rfl (Qt.indexB (i := 2) Tryd.underlying105 Tryd.cells44 rfl rfl (by omega)) ?_
        refine S.qg rfl rfl rfl (Qt.load rfl (Ld.one (v := .slice B' ls'.length b') (Has.at 2 rfl) Tryd.one44 rfl)) ?_
        by_cases h3 : ls = ls'
        · refine S.opg rfl rfl rfl (OpV.con0 Tryd.ent37 rfl (fun w hw => hashesG_T B b ls B' b' ls' (by omega) h3 w (Rd.ro hB w hw) (Rd.ro hB' w hw)) ?_)
          refine S.qg rfl rfl rfl (Qt.move (by conv => lhs; whnf)) ?_
          refine S.qg rfl rfl rfl (Qt.indexB (i := 1) Tryd.underlying105 Tryd.cells44 rfl rfl (by omega)) ?_
          refine S.qg rfl rfl rfl (Qt.load rfl (Ld.one (v := .slice Z bs.length e) (Has.at 2 rfl) Tryd.one44 rfl)) ?_
          refine S.qg rfl rfl rfl (Qt.indexB (i := 3) Tryd.underlying105 Tryd.cells44 rfl rfl (by omega)) ?_
          refine S.qg rfl rfl rfl (Qt.load rfl (Ld.one (v := .slice Z' bs'.length e') (Has.at 2 rfl) Tryd.one44 rfl)) ?_
          by_cases h4 : bs = bs'
          · refine S.opg rfl rfl rfl (OpV.con0 Tryd.ent37 rfl (fun w hw => hashesG_T Z e bs Z' e' bs' (by omega) h4 w (Rd.ro hD w hw) (Rd.ro hD' w hw)) ?_)
            refine S.qg rfl rfl rfl (Qt.pick_t rfl (by conv => lhs; whnf)) ?_
            refine S.q rfl rfl (Qt.pick_f rfl (by conv => lhs; whnf)) ?_
            refine S.nil ?_
            refine S.if_t rfl ?_
            refine TC.seq ?_
            refine TC.region ?_
            refine S.q rfl rfl (Qt.assign (by conv => lhs; whnf)) ?_
            refine S.nil ?_
            refine TC.ret ?_
            refine finQ.ret (RVs.tmp (by conv => lhs; whnf) RVs.nil) (Sub.nil _) ?_
            exact ⟨rfl, rfl⟩
          · refine S.opg rfl rfl rfl (OpV.con0 Tryd.ent37 rfl (fun w hw => hashesG_F Z e bs Z' e' bs' (by omega) h4 w (Rd.ro hD w hw) (Rd.ro hD' w hw)) ?_)
            refine S.qg rfl rfl rfl (Qt.pick_t rfl (by conv => lhs; whnf)) ?_
            refine S.q rfl rfl (Qt.pick_f rfl (by conv => lhs; whnf)) ?_
            refine S.nil ?_
            refine S.if_f rfl ?_
            refine TC.skip ?_
            refine TC.seq ?_
            refine TC.region ?_
            obtain ⟨height, rfl, hh, hi, l1, l2, v1⟩ := rootR_ok q1
            obtain ⟨l1', l2', v2⟩ := rootR_ok' hh q2
            refine S.q rfl rfl (Qt.move (by conv => lhs; whnf)) ?_
            refine S.q rfl rfl (Qt.move (by conv => lhs; whnf)) ?_
            refine S.q rfl rfl (Qt.indexB (i := 0) Tryd.underlying105 Tryd.cells44 rfl rfl (by omega)) ?_
            refine S.q rfl rfl (Qt.load rfl (Ld.one (v := .slice B ls.length b) (Has.at 2 rfl) Tryd.one44 rfl)) ?_
            refine S.q rfl rfl (Qt.indexB (i := 1) Tryd.underlying105 Tryd.cells44 rfl rfl (by omega)) ?_
            refine S.q rfl rfl (Qt.load rfl (Ld.one (v := .slice Z bs.length e) (Has.at 2 rfl) Tryd.one44 rfl)) ?_
            refine S.opS rfl rfl (OpV.con (Pre := []) (R := _) Tryd.ent58 rfl (List.Perm.refl _) (fun w hw => txt_walk0 height hh A c xs hc B b ls Z e bs hi l1 l2 hb hbs w hlow (Rd.ro hR w hw) (Rd.ro hB w hw) (Rd.ro hD w hw) (hT.at hw)) ?_)
            rintro v L' ⟨O1, d1, t1, rfl, rfl, e1⟩
            refine S.q rfl rfl (Qt.move (by conv => lhs; whnf)) ?_
            refine S.q rfl rfl (Qt.extract rfl rfl) ?_
            refine S.q rfl rfl (Qt.extract rfl rfl) ?_
            refine S.q rfl rfl (Qt.assign (by conv => lhs; whnf)) ?_
            refine S.q rfl rfl (Qt.assign (by conv => lhs; whnf)) ?_
            refine S.nil ?_
            refine TC.seq ?_
            refine TC.region ?_
            refine S.q rfl rfl (Qt.move (by conv => lhs; whnf)) ?_
            refine S.q rfl rfl (Qt.move (by conv => lhs; whnf)) ?_
            refine S.q rfl rfl (Qt.indexB (i := 2) Tryd.underlying105 Tryd.cells44 rfl rfl (by omega)) ?_
            refine S.q rfl rfl (Qt.load rfl (Ld.one (v := .slice B' ls'.length b') (Has.at 4 rfl) Tryd.one44 rfl)) ?_
            refine S.q rfl rfl (Qt.indexB (i := 3) Tryd.underlying105 Tryd.cells44 rfl rfl (by omega)) ?_
            refine S.q rfl rfl (Qt.load rfl (Ld.one (v := .slice Z' bs'.length e') (Has.at 4 rfl) Tryd.one44 rfl)) ?_
            refine S.opS rfl rfl (OpV.con (Pre := []) (R := _) Tryd.ent58 rfl (List.Perm.refl _) (fun w hw => txt_walk0 height hh A c xs hc B' b' ls' Z' e' bs' hi l1' l2' hb' hbs' w hlow (Rd.ro hR w hw) (Rd.ro hB' w hw) (Rd.ro hD' w hw) (hT.at hw)) ?_)
            rintro v L' ⟨O2, d2, t2, rfl, rfl, e2⟩
            have n1 := congrArg List.length e1
            have n2 := congrArg List.length e2
            rw [List.length_map] at n1 n2
            have k1 := climbT_len height xs 0 ls bs
            have k2 := climbT_len height xs 0 ls' bs'
            have k3 : xs.length * height ≤ 256 * 32 := Nat.mul_le_mul hi.2.1 hh
            refine S.q rfl rfl (Qt.move (by conv => lhs; whnf)) ?_
            refine S.q rfl rfl (Qt.extract rfl rfl) ?_
            refine S.q rfl rfl (Qt.extract rfl rfl) ?_
            refine S.q rfl rfl (Qt.assign (by conv => lhs; whnf)) ?_
            refine S.q rfl rfl (Qt.assign (by conv => lhs; whnf)) ?_
            refine S.nil ?_
            refine TC.seq ?_
            refine TC.region ?_
            refine S.q rfl rfl (Qt.move (by conv => lhs; whnf)) ?_
            refine S.q rfl rfl (Qt.eqnil_nil Tryd.underlying27 rfl) ?_
            refine S.q rfl rfl (Qt.move (by conv => lhs; whnf)) ?_
            refine S.qg rfl rfl rfl (Qt.move (by conv => lhs; whnf)) ?_
            refine S.qg rfl rfl rfl (Qt.eqnil_nil Tryd.underlying27 rfl) ?_
            refine S.q rfl rfl (Qt.pick_t rfl (by conv => lhs; whnf)) ?_
            refine S.q rfl rfl (Qt.move (by conv => lhs; whnf)) ?_
            refine S.qg rfl rfl rfl (Qt.move (by conv => lhs; whnf)) ?_
            refine S.qg rfl rfl rfl (Qt.move (by conv => lhs; whnf)) ?_
            have hne : ¬ (ls = ls' ∧ bs = bs') := fun h => by first | exact h3 h.1 | exact h4 h.2
            have hcol : Collides ((t1 ++ t2).map (fun t => t.2.2)) := by rw [List.map_append, e1, e2]; exact bind_collides hi l1 l1' l2 l2' (by rw [← v1, ← v2]; exact Decidable.not_not.1 h63) hne
            have h66 : ∀ t ∈ t1 ++ t2, t.2.2.length = 66 := fun t ht => (List.mem_append.1 ht).elim (fun h => climbT_66 _ _ _ _ _ _ (by rw [← e1]; exact List.mem_map_of_mem (f := fun t : Tx => t.2.2) h)) (fun h => climbT_66 _ _ _ _ _ _ (by rw [← e2]; exact List.mem_map_of_mem (f := fun t : Tx => t.2.2) h))
            refine S.opg rfl rfl rfl (OpV.app2 (bytes := 24) (news := t2.flatMap txL) Tryd.underlying91 Tryd.elem101 rfl rfl (Has.own (Has.at 0 rfl)) (by rw [txL_len, Nat.mul_one]) (txL_one _) (by simp only [maxLen]; omega) (by omega) (fun O3 d3 => ?_))
            refine S.opg rfl rfl rfl (OpV.con0 Tryd.ent62 rfl (fun w hw => (by have q := Calls.ret (collide_walk O3 d3 (t1 ++ t2) (by rw [List.length_append]; omega) h66 hcol w (by rw [List.flatMap_append]; exact (Rd.own (Rd.at 2 rfl) w hw)) (fun t ht => (List.mem_append.1 ht).elim (fun h => Rd.own (e := 5) (sz := 1) (Rd.many (A := txOwn t) (Rd.at 3 rfl) (List.mem_map_of_mem h)) w hw) (fun h => Rd.own (e := 5) (sz := 1) (Rd.many (A := txOwn t) (Rd.at 1 rfl) (List.mem_map_of_mem h)) w hw)) (hT.at hw)); rw [List.length_append] at q; exact q : Calls Tryd.prog 62 #[.slice O3 (t1.length + t2.length) d3] w (Ret w (.bool true)))) ?_)
            refine S.q rfl rfl (Qt.pick_t rfl (by conv => lhs; whnf)) ?_
            refine S.q rfl rfl (Qt.assign (by conv => lhs; whnf)) ?_
            refine S.nil ?_
            refine TC.ret ?_
            refine finQ.ret (RVs.tmp (by conv => lhs; whnf) RVs.nil) (Sub.nil _) ?_
            exact ⟨rfl, rfl⟩
        · refine S.opg rfl rfl rfl (OpV.con0 Tryd.ent37 rfl (fun w hw => hashesG_F B b ls B' b' ls' (by omega) h3 w (Rd.ro hB w hw) (Rd.ro hB' w hw)) ?_)
          refine S.qg rfl rfl rfl (Qt.move (by conv => lhs; whnf)) ?_
          refine S.pass rfl rfl ?_
          refine S.pass rfl rfl ?_
          refine S.pass rfl rfl ?_
          refine S.pass rfl rfl ?_
          refine S.pass rfl rfl ?_
          refine S.qg rfl rfl rfl (Qt.pick_f rfl (by conv => lhs; whnf)) ?_
          refine S.q rfl rfl (Qt.pick_f rfl (by conv => lhs; whnf)) ?_
          refine S.nil ?_
          refine S.if_f rfl ?_
          refine TC.skip ?_
          refine TC.seq ?_
          refine TC.region ?_
          obtain ⟨height, rfl, hh, hi, l1, l2, v1⟩ := rootR_ok q1
          obtain ⟨l1', l2', v2⟩ := rootR_ok' hh q2
          refine S.q rfl rfl (Qt.move (by conv => lhs; whnf)) ?_
          refine S.q rfl rfl (Qt.move (by conv => lhs; whnf)) ?_
          refine S.q rfl rfl (Qt.indexB (i := 0) Tryd.underlying105 Tryd.cells44 rfl rfl (by omega)) ?_
          refine S.q rfl rfl (Qt.load rfl (Ld.one (v := .slice B ls.length b) (Has.at 2 rfl) Tryd.one44 rfl)) ?_
          refine S.q rfl rfl (Qt.indexB (i := 1) Tryd.underlying105 Tryd.cells44 rfl rfl (by omega)) ?_
          refine S.q rfl rfl (Qt.load rfl (Ld.one (v := .slice Z bs.length e) (Has.at 2 rfl) Tryd.one44 rfl)) ?_
          refine S.opS rfl rfl (OpV.con (Pre := []) (R := _) Tryd.ent58 rfl (List.Perm.refl _) (fun w hw => txt_walk0 height hh A c xs hc B b ls Z e bs hi l1 l2 hb hbs w hlow (Rd.ro hR w hw) (Rd.ro hB w hw) (Rd.ro hD w hw) (hT.at hw)) ?_)
          rintro v L' ⟨O1, d1, t1, rfl, rfl, e1⟩
          refine S.q rfl rfl (Qt.move (by conv => lhs; whnf)) ?_
          refine S.q rfl rfl (Qt.extract rfl rfl) ?_
          refine S.q rfl rfl (Qt.extract rfl rfl) ?_
          refine S.q rfl rfl (Qt.assign (by conv => lhs; whnf)) ?_
          refine S.q rfl rfl (Qt.assign (by conv => lhs; whnf)) ?_
          refine S.nil ?_
          refine TC.seq ?_
          refine TC.region ?_
          refine S.q rfl rfl (Qt.move (by conv => lhs; whnf)) ?_
          refine S.q rfl rfl (Qt.move (by conv => lhs; whnf)) ?_
          refine S.q rfl rfl (Qt.indexB (i := 2) Tryd.underlying105 Tryd.cells44 rfl rfl (by omega)) ?_
          refine S.q rfl rfl (Qt.load rfl (Ld.one (v := .slice B' ls'.length b') (Has.at 4 rfl) Tryd.one44 rfl)) ?_
          refine S.q rfl rfl (Qt.indexB (i := 3) Tryd.underlying105 Tryd.cells44 rfl rfl (by omega)) ?_
          refine S.q rfl rfl (Qt.load rfl (Ld.one (v := .slice Z' bs'.length e') (Has.at 4 rfl) Tryd.one44 rfl)) ?_
          refine S.opS rfl rfl (OpV.con (Pre := []) (R := _) Tryd.ent58 rfl (List.Perm.refl _) (fun w hw => txt_walk0 height hh A c xs hc B' b' ls' Z' e' bs' hi l1' l2' hb' hbs' w hlow (Rd.ro hR w hw) (Rd.ro hB' w hw) (Rd.ro hD' w hw) (hT.at hw)) ?_)
          rintro v L' ⟨O2, d2, t2, rfl, rfl, e2⟩
          have n1 := congrArg List.length e1
          have n2 := congrArg List.length e2
          rw [List.length_map] at n1 n2
          have k1 := climbT_len height xs 0 ls bs
          have k2 := climbT_len height xs 0 ls' bs'
          have k3 : xs.length * height ≤ 256 * 32 := Nat.mul_le_mul hi.2.1 hh
          refine S.q rfl rfl (Qt.move (by conv => lhs; whnf)) ?_
          refine S.q rfl rfl (Qt.extract rfl rfl) ?_
          refine S.q rfl rfl (Qt.extract rfl rfl) ?_
          refine S.q rfl rfl (Qt.assign (by conv => lhs; whnf)) ?_
          refine S.q rfl rfl (Qt.assign (by conv => lhs; whnf)) ?_
          refine S.nil ?_
          refine TC.seq ?_
          refine TC.region ?_
          refine S.q rfl rfl (Qt.move (by conv => lhs; whnf)) ?_
          refine S.q rfl rfl (Qt.eqnil_nil Tryd.underlying27 rfl) ?_
          refine S.q rfl rfl (Qt.move (by conv => lhs; whnf)) ?_
          refine S.qg rfl rfl rfl (Qt.move (by conv => lhs; whnf)) ?_
          refine S.qg rfl rfl rfl (Qt.eqnil_nil Tryd.underlying27 rfl) ?_
          refine S.q rfl rfl (Qt.pick_t rfl (by conv => lhs; whnf)) ?_
          refine S.q rfl rfl (Qt.move (by conv => lhs; whnf)) ?_
          refine S.qg rfl rfl rfl (Qt.move (by conv => lhs; whnf)) ?_
          refine S.qg rfl rfl rfl (Qt.move (by conv => lhs; whnf)) ?_
          have hne : ¬ (ls = ls' ∧ bs = bs') := fun h => by first | exact h3 h.1 | exact h4 h.2
          have hcol : Collides ((t1 ++ t2).map (fun t => t.2.2)) := by rw [List.map_append, e1, e2]; exact bind_collides hi l1 l1' l2 l2' (by rw [← v1, ← v2]; exact Decidable.not_not.1 h63) hne
          have h66 : ∀ t ∈ t1 ++ t2, t.2.2.length = 66 := fun t ht => (List.mem_append.1 ht).elim (fun h => climbT_66 _ _ _ _ _ _ (by rw [← e1]; exact List.mem_map_of_mem (f := fun t : Tx => t.2.2) h)) (fun h => climbT_66 _ _ _ _ _ _ (by rw [← e2]; exact List.mem_map_of_mem (f := fun t : Tx => t.2.2) h))
          refine S.opg rfl rfl rfl (OpV.app2 (bytes := 24) (news := t2.flatMap txL) Tryd.underlying91 Tryd.elem101 rfl rfl (Has.own (Has.at 0 rfl)) (by rw [txL_len, Nat.mul_one]) (txL_one _) (by simp only [maxLen]; omega) (by omega) (fun O3 d3 => ?_))
          refine S.opg rfl rfl rfl (OpV.con0 Tryd.ent62 rfl (fun w hw => (by have q := Calls.ret (collide_walk O3 d3 (t1 ++ t2) (by rw [List.length_append]; omega) h66 hcol w (by rw [List.flatMap_append]; exact (Rd.own (Rd.at 2 rfl) w hw)) (fun t ht => (List.mem_append.1 ht).elim (fun h => Rd.own (e := 5) (sz := 1) (Rd.many (A := txOwn t) (Rd.at 3 rfl) (List.mem_map_of_mem h)) w hw) (fun h => Rd.own (e := 5) (sz := 1) (Rd.many (A := txOwn t) (Rd.at 1 rfl) (List.mem_map_of_mem h)) w hw)) (hT.at hw)); rw [List.length_append] at q; exact q : Calls Tryd.prog 62 #[.slice O3 (t1.length + t2.length) d3] w (Ret w (.bool true)))) ?_)
          refine S.q rfl rfl (Qt.pick_t rfl (by conv => lhs; whnf)) ?_
          refine S.q rfl rfl (Qt.assign (by conv => lhs; whnf)) ?_
          refine S.nil ?_
          refine TC.ret ?_
          refine finQ.ret (RVs.tmp (by conv => lhs; whnf) RVs.nil) (Sub.nil _) ?_
          exact ⟨rfl, rfl⟩
    · refine S.opS rfl rfl (OpV.con0 Tryd.ent57 rfl (fun w hw => (by have q := root10_R z A c xs hc B' b' ls' Z' e' bs' hb' hbs' w hlow (Rd.ro hR w hw) (Rd.ro hB' w hw) (Rd.ro hD' w hw) (hT.at hw); rw [errv_pos q2] at q; exact q : Calls Tryd.prog 57 #[.int .i64 z, .slice A xs.length c, .slice B' ls'.length b', .slice Z' bs'.length e'] w (Ret w (.tuple #[hv (rootR z xs ls' bs').1, .iface 58 (.int .i64 (((rootR z xs ls' bs').2 : Nat) : Int))])))) ?_)
      refine S.q rfl rfl (Qt.move (by conv => lhs; whnf)) ?_
      refine S.q rfl rfl (Qt.extract rfl rfl) ?_
      refine S.q rfl rfl (Qt.extract rfl rfl) ?_
      refine S.opS rfl rfl (OpV.alloc Tryd.zero23 (fun b9 => ?_))
      refine S.opN rfl (OpV.storeV0 (v := hv (_)) rfl rfl (hv_size Tryd.cells23) (hv_all _) (hv_len _) ?_)
      refine S.q rfl rfl (Qt.assign (by conv => lhs; whnf)) ?_
      refine S.nil ?_
      refine TC.seq ?_
      refine TC.seq ?_
      refine TC.region ?_
      refine S.q rfl rfl (Qt.move (by conv => lhs; whnf)) ?_
      refine S.q rfl rfl (Qt.nenil_nil Tryd.underlying27 rfl) ?_
      refine S.q rfl rfl (Qt.move (by conv => lhs; whnf)) ?_
      refine S.qg rfl rfl rfl (Qt.move (by conv => lhs; whnf)) ?_
      refine S.qg rfl rfl rfl (Qt.nenil_iface Tryd.underlying27 rfl) ?_
      refine S.q rfl rfl (Qt.pick_f rfl (by conv => lhs; whnf)) ?_
      refine S.q rfl rfl (Qt.move (by conv => lhs; whnf)) ?_
      refine S.pass rfl rfl ?_
      refine S.pass rfl rfl ?_
      refine S.pass rfl rfl ?_
      refine S.q rfl rfl (Qt.pick_t rfl (by conv => lhs; whnf)) ?_
      refine S.q rfl rfl (Qt.move (by conv => lhs; whnf)) ?_
      refine S.pass rfl rfl ?_
      refine S.pass rfl rfl ?_
      refine S.pass rfl rfl ?_
      refine S.pass rfl rfl ?_
      refine S.pass rfl rfl ?_
      refine S.pass rfl rfl ?_
      refine S.pass rfl rfl ?_
      refine S.pass rfl rfl ?_
      refine S.pass rfl rfl ?_
      refine S.pass rfl rfl ?_
      refine S.pass rfl rfl ?_
      refine S.pass rfl rfl ?_
      refine S.q rfl rfl (Qt.pick_t rfl (by conv => lhs; whnf)) ?_
      refine S.nil ?_
      refine S.if_t rfl ?_
      refine TC.seq ?_
      refine TC.region ?_
      refine S.q rfl rfl (Qt.assign (by conv => lhs; whnf)) ?_
      refine S.nil ?_
      refine TC.ret ?_
      refine finQ.ret (RVs.tmp (by conv => lhs; whnf) RVs.nil) (Sub.nil _) ?_
      exact ⟨rfl, rfl⟩
  · refine S.opS rfl rfl (OpV.con0 Tryd.ent57 rfl (fun w hw => (by have q := root10_R z A c xs hc B b ls Z e bs hb hbs w hlow (Rd.ro hR w hw) (Rd.ro hB w hw) (Rd.ro hD w hw) (hT.at hw); rw [errv_pos q1] at q; exact q : Calls Tryd.prog 57 #[.int .i64 z, .slice A xs.length c, .slice B ls.length b, .slice Z bs.length e] w (Ret w (.tuple #[hv (rootR z xs ls bs).1, .iface 58 (.int .i64 (((rootR z xs ls bs).2 : Nat) : Int))])))) ?_)
    refine S.q rfl rfl (Qt.move (by conv => lhs; whnf)) ?_
    refine S.q rfl rfl (Qt.extract rfl rfl) ?_
    refine S.q rfl rfl (Qt.extract rfl rfl) ?_
    refine S.opS rfl rfl (OpV.alloc Tryd.zero23 (fun b7 => ?_))
    refine S.opN rfl (OpV.storeV0 (v := hv (_)) rfl rfl (hv_size Tryd.cells23) (hv_all _) (hv_len _) ?_)
    refine S.q rfl rfl (Qt.assign (by conv => lhs; whnf)) ?_
    refine S.nil ?_
    refine TC.seq ?_
    refine TC.region ?_
    refine S.q rfl rfl (Qt.move (by conv => lhs; whnf)) ?_
    refine S.q rfl rfl (Qt.move (by conv => lhs; whnf)) ?_
    refine S.q rfl rfl (Qt.indexB (i := 2) Tryd.underlying105 Tryd.cells44 rfl rfl (by omega)) ?_
    refine S.q rfl rfl (Qt.load rfl (Ld.one (v := .slice B' ls'.length b') (Has.at 1 rfl) Tryd.one44 rfl)) ?_
    refine S.q rfl rfl (Qt.indexB (i := 3) Tryd.underlying105 Tryd.cells44 rfl rfl (by omega)) ?_
    refine S.q rfl rfl (Qt.load rfl (Ld.one (v := .slice Z' bs'.length e') (Has.at 1 rfl) Tryd.one44 rfl)) ?_
    by_cases q2 : (rootR z xs ls' bs').2 = 0
    · refine S.opS rfl rfl (OpV.con0 Tryd.ent57 rfl (fun w hw => (by have q := root10_R z A c xs hc B' b' ls' Z' e' bs' hb' hbs' w hlow (Rd.ro hR w hw) (Rd.ro hB' w hw) (Rd.ro hD' w hw) (hT.at hw); rw [q2] at q; exact q : Calls Tryd.prog 57 #[.int .i64 z, .slice A xs.length c, .slice B' ls'.length b', .slice Z' bs'.length e'] w (Ret w (.tuple #[hv (rootR z xs ls' bs').1, .nilIface])))) ?_)
      refine S.q rfl rfl (Qt.move (by conv => lhs; whnf)) ?_
      refine S.q rfl rfl (Qt.extract rfl rfl) ?_
      refine S.q rfl rfl (Qt.extract rfl rfl) ?_
      refine S.opS rfl rfl (OpV.alloc Tryd.zero23 (fun b9 => ?_))
      refine S.opN rfl (OpV.storeV0 (v := hv (_)) rfl rfl (hv_size Tryd.cells23) (hv_all _) (hv_len _) ?_)
      refine S.q rfl rfl (Qt.assign (by conv => lhs; whnf)) ?_
      refine S.nil ?_
      refine TC.seq ?_
      refine TC.seq ?_
      refine TC.region ?_
      refine S.q rfl rfl (Qt.move (by conv => lhs; whnf)) ?_
      refine S.q rfl rfl (Qt.nenil_iface Tryd.underlying27 rfl) ?_
      refine S.q rfl rfl (Qt.move (by conv => lhs; whnf)) ?_
      refine S.pass rfl rfl ?_
      refine S.pass rfl rfl ?_
      refine S.q rfl rfl (Qt.pick_t rfl (by conv => lhs; whnf)) ?_
      refine S.q rfl rfl (Qt.move (by conv => lhs; whnf)) ?_
      refine S.pass rfl rfl ?_
      refine S.pass rfl rfl ?_
      refine S.pass rfl rfl ?_
      refine S.q rfl rfl (Qt.pick_t rfl (by conv => lhs; whnf)) ?_
      refine S.q rfl rfl (Qt.move (by conv => lhs; whnf)) ?_
      refine S.pass rfl rfl ?_
      refine S.pass rfl rfl ?_
      refine S.pass rfl rfl ?_
      refine S.pass rfl rfl ?_
      refine S.pass rfl rfl ?_
      refine S.pass rfl rfl ?_
      refine S.pass rfl rfl ?_
      refine S.pass rfl rfl ?_
      refine S.pass rfl rfl ?_
      refine S.pass rfl rfl ?_
      refine S.pass rfl rfl ?_
      refine S.pass rfl rfl ?_
      refine S.q rfl rfl (Qt.pick_t rfl (by conv => lhs; whnf)) ?_
      refine S.nil ?_
      refine S.if_t rfl ?_
      refine TC.seq ?_
      refine TC.region ?_
      refine S.q rfl rfl (Qt.assign (by conv => lhs; whnf)) ?_
      refine S.nil ?_
      refine TC.ret ?_
      refine finQ.ret (RVs.tmp (by conv => lhs; whnf) RVs.nil) (Sub.nil _) ?_
      exact ⟨rfl, rfl⟩
    · refine S.opS rfl rfl (OpV.con0 Tryd.ent57 rfl (fun w hw => (by have q := root10_R z A c xs hc B' b' ls' Z' e' bs' hb' hbs' w hlow (Rd.ro hR w hw) (Rd.ro hB' w hw) (Rd.ro hD' w hw) (hT.at hw); rw [errv_pos q2] at q; exact q : Calls Tryd.prog 57 #[.int .i64 z, .slice A xs.length c, .slice B' ls'.length b', .slice Z' bs'.length e'] w (Ret w (.tuple #[hv (rootR z xs ls' bs').1, .iface 58 (.int .i64 (((rootR z xs ls' bs').2 : Nat) : Int))])))) ?_)
      refine S.q rfl rfl (Qt.move (by conv => lhs; whnf)) ?_
      refine S.q rfl rfl (Qt.extract rfl rfl) ?_
      refine S.q rfl rfl (Qt.extract rfl rfl) ?_
      refine S.opS rfl rfl (OpV.alloc Tryd.zero23 (fun b9 => ?_))
      refine S.opN rfl (OpV.storeV0 (v := hv (_)) rfl rfl (hv_size Tryd.cells23) (hv_all _) (hv_len _) ?_)
      refine S.q rfl rfl (Qt.assign (by conv => lhs; whnf)) ?_
      refine S.nil ?_
      refine TC.seq ?_
      refine TC.seq ?_
      refine TC.region ?_
      refine S.q rfl rfl (Qt.move (by conv => lhs; whnf)) ?_
      refine S.q rfl rfl (Qt.nenil_iface Tryd.underlying27 rfl) ?_
      refine S.q rfl rfl (Qt.move (by conv => lhs; whnf)) ?_
      refine S.pass rfl rfl ?_
      refine S.pass rfl rfl ?_
      refine S.q rfl rfl (Qt.pick_t rfl (by conv => lhs; whnf)) ?_
      refine S.q rfl rfl (Qt.move (by conv => lhs; whnf)) ?_
      refine S.pass rfl rfl ?_
      refine S.pass rfl rfl ?_
      refine S.pass rfl rfl ?_
      refine S.q rfl rfl (Qt.pick_t rfl (by conv => lhs; whnf)) ?_
      refine S.q rfl rfl (Qt.move (by conv => lhs; whnf)) ?_
      refine S.pass rfl rfl ?_
      refine S.pass rfl rfl ?_
      refine S.pass rfl rfl ?_
      refine S.pass rfl rfl ?_
      refine S.pass rfl rfl ?_
      refine S.pass rfl rfl ?_
      refine S.pass rfl rfl ?_
      refine S.pass rfl rfl ?_
      refine S.pass rfl rfl ?_
      refine S.pass rfl rfl ?_
      refine S.pass rfl rfl ?_
      refine S.pass rfl rfl ?_
      refine S.q rfl rfl (Qt.pick_t rfl (by conv => lhs; whnf)) ?_
      refine S.nil ?_
      refine S.if_t rfl ?_
      refine TC.seq ?_
      refine TC.region ?_
      refine S.q rfl rfl (Qt.assign (by conv => lhs; whnf)) ?_
      refine S.nil ?_
      refine TC.ret ?_
      refine finQ.ret (RVs.tmp (by conv => lhs; whnf) RVs.nil) (Sub.nil _) ?_
      exact ⟨rfl, rfl⟩
theorem proofBinds_R (z : Int) (A : Option Addr) (c : Nat) (xs : List Nat) (hc : xs.length ≤ c) (B : Option Addr) (b : Nat) (ls : List H32) (Z : Option Addr) (e : Nat) (bs : List H32) (B' : Option Addr) (b' : Nat) (ls' : List H32) (Z' : Option Addr) (e' : Nat) (bs' : List H32) (hb : ls.length ≤ b) (hbs : bs.length ≤ e) (hb' : ls'.length ≤ b') (hbs' : bs'.length ≤ e') (w0 : World) (hlow : ∀ x ∈ xs, x < 18446744073709551616) (hR : Ro w0 [] (SlA A (u64s xs))) (hB : Ro w0 [] (SlA B (hcs ls))) (hD : Ro w0 [] (SlA Z (hcs bs))) (hB' : Ro w0 [] (SlA B' (hcs ls'))) (hD' : Ro w0 [] (SlA Z' (hcs bs'))) (hT : Tabs 2 0 w0 []) : Calls Tryd.prog 11 #[.int .i64 z, .slice A xs.length c, .agg #[.slice B ls.length b, .slice Z bs.length e, .slice B' ls'.length b', .slice Z' bs'.length e']] w0 (Post w0 [] fun v L => v = .bool true ∧ L = []) := by
  have hEm : ∀ w, Tabs 2 0 w [] → Calls Tryd.prog 88 #[] w (Ret w (.agg (hcs (emptL emptyH)).toArray)) := fun w h => empties_R w h
  have hE : ∀ h, emptyH (h + 1) = joinH (h + 1) (emptyH h) (emptyH h) := fun _ => rfl
  by_cases g1 : largeP xs.length ls.length bs.length
  · exact law11_walkE1 emptyH hEm hE z A c xs hc B b ls Z e bs B' b' ls' Z' e' bs' g1 w0 hT
  · by_cases g2 : largeP xs.length ls'.length bs'.length
    · exact law11_walkE2 emptyH hEm hE z A c xs hc B b ls Z e bs B' b' ls' Z' e' bs' g1 g2 w0 hT
    · by_cases g3 : 40 < xs.length
      · exact law11_walkE3 emptyH hEm hE z A c xs hc B b ls Z e bs B' b' ls' Z' e' bs' g1 g2 g3 w0 hT
      · exact law11_walk emptyH hEm hE z A c xs hc B b ls Z e bs B' b' ls' Z' e' bs' g1 g2 (by omega) hb hbs hb' hbs' w0 hlow hR hB hD hB' hD' hT

end Go.Proofs.YtlneklemjfefpaaDoor
