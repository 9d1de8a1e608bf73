/-
  Walks: the document's climbing, its texts and its check; the law of roots. Printed by a program of ours. Walks: the document's texts and check; the law of roots. Printed by a program of ours.
-/
import Derived.Test.YtgdjcmehlhebdaaDoorZ5
import Derived.Test.YtgdjcmehlhebdaaDoorQS
namespace Go.Proofs.YtgdjcmehlhebdaaDoor
open Go.E
set_option linter.unusedVariables false
set_option maxRecDepth 4000
theorem Tryd.key182 : KeyLaw Tryd.prog 164 encAt := Go.E.keyAt Tryd.underlying164 (by decide) (by decide) rfl rfl Tryd.underlying3 Tryd.underlying22 (by kernel_rfl)
def RClimbC (height : Nat) (A : Option Addr) (c : Nat) (xs : List Nat) (B : Option Addr) (b : Nat) (ls : List H32) (P : Option Addr) (q : Nat) (s : Sd) (Z : Option Addr) (e : Nat) (bs : List H32) (l : Nat) : Prop := ∀ (p : Nat) (w0 : World), okAt height (l, p) → RefOk (s.zip bs) (xs.zip ls) l p → Ro w0 [] (SlA A (u64s xs)) → Ro w0 [] (SlA B (hcs ls)) → Ro w0 [] (SlA P (sdL s)) → Ro w0 [] (SlA Z (hcs bs)) → Tabs 2 0 w0 [] →
  Calls Tryd.prog 57 #[.slice A xs.length c, .slice B ls.length b, .slice P s.length q, .slice Z bs.length e, .int .i64 ((l : Nat) : Int), .int .u64 (p : Int)] w0 (Post w0 [] fun v L => ∃ (O : Option Addr) (d : Nat) (tt : List Tx), v = .tuple #[.slice O tt.length d, hv (refV (s.zip bs) (xs.zip ls) (l) (p))] ∧ L = [OwnA 64 1 O tt.length d (tt.flatMap txL), Many (tt.map txOwn)] ∧ tt.map (fun t => t.2.2) = refT (s.zip bs) (xs.zip ls) (l) (p))
set_option maxHeartbeats 800000 in
theorem rclimb10_walk0 (height : Nat) (hh : height ≤ 32) (A : Option Addr) (c : Nat) (xs : List Nat) (B : Option Addr) (b : Nat) (ls : List H32) (P : Option Addr) (q : Nat) (s : Sd) (Z : Option Addr) (e : Nat) (bs : List H32) (hsl : s.length = bs.length) (hxl : xs.length = ls.length) (hsn : s.length ≤ 16384) (hn : xs.length ≤ 256) (p : Nat) (w0 : World) (ho : okAt height (0, p)) (hok : RefOk (s.zip bs) (xs.zip ls) (0) p) (hR : Ro w0 [] (SlA A (u64s xs))) (hB : Ro w0 [] (SlA B (hcs ls))) (hP : Ro w0 [] (SlA P (sdL s))) (hZ : Ro w0 [] (SlA Z (hcs bs))) (hT : Tabs 2 0 w0 [])  :
    Calls Tryd.prog 57 #[.slice A xs.length c, .slice B ls.length b, .slice P s.length q, .slice Z bs.length e, .int .i64 ((0 : Nat) : Int), .int .u64 (p : Int)] w0 (Post w0 [] fun v L => ∃ (O : Option Addr) (d : Nat) (tt : List Tx), v = .tuple #[.slice O tt.length d, hv (refV (s.zip bs) (xs.zip ls) (0) (p))] ∧ L = [OwnA 64 1 O tt.length d (tt.flatMap txL), Many (tt.map txOwn)] ∧ tt.map (fun t => t.2.2) = refT (s.zip bs) (xs.zip ls) (0) (p)) := by
  refine Calls.of (L := []) (n := 94) (rs := [.tmp 12, .cell 13 24]) Tryd.func57 rfl rfl rfl (Nat.le_of_ble_eq_true rfl) (Sat.nil _) ?_
  obtain ⟨hl32, hp32⟩ := okAt_lt hh ho
  refine TC.ownNil 64 1 ?_
  refine TC.manyNil ?_
  refine TC.seq ?_
  refine TC.region ?_
  refine S.q rfl rfl (Qt.assign (by conv => lhs; whnf)) ?_
  refine S.opS rfl rfl (OpV.alloc Tryd.zero24 (fun b13 => ?_))
  refine S.nil ?_
  refine TC.seq ?_
  refine TC.seq ?_
  refine TC.region ?_
  refine S.q rfl rfl (Qt.assign (by conv => lhs; whnf)) ?_
  refine S.nil ?_
  refine TC.block ?_
  refine TC.loop (γ := Nat) [21, 22, 23, 24, 27, 28, 29, 30, 31, 32, 33, 34, 35, 36, 37, 38, 12, 25, 26, 14] (fun k => [(14, .int .i64 (k : Int))]) (fun _ => _) (fun k => k ≤ s.length ∧ ∀ i, i < k → s.getD i (0, 0) ≠ (0, p)) (fun k => s.length - k) (0)
    ⟨Nat.zero_le _, fun i h => absurd h (Nat.not_lt_zero _)⟩ ⟨Out.refl _ _, (List.forall_mem_cons.2 ⟨rfl, (fun _ h => nomatch h)⟩)⟩ (Sub.refl _) ?_
  rintro k u ⟨hk, hq⟩
  refine TC.seq ?_
  refine TC.seq ?_
  refine TC.region ?_
  refine S.q rfl rfl (Qt.move (by conv => lhs; whnf)) ?_
  refine S.q rfl rfl (Qt.move (by conv => lhs; whnf)) ?_
  refine S.q rfl rfl (Qt.len_slice Tryd.underlying124 rfl) ?_
  refine S.dec rfl rfl (Qt.lt rfl rfl) (fun h24 => ?_) (fun h24 => ?_)
  · refine S.nil ?_
    refine S.if_t rfl ?_
    refine TC.skip ?_
    refine TC.seq ?_
    refine TC.block ?_
    refine TC.seq ?_
    refine TC.region ?_
    refine S.q rfl rfl (Qt.move (by conv => lhs; whnf)) ?_
    refine S.q rfl rfl (Qt.move (by conv => lhs; whnf)) ?_
    refine S.q rfl rfl (Qt.index Tryd.underlying124 Tryd.cells164 rfl rfl (by omega) (Has.ro hP) (by rw [sdL_len]; omega)) ?_
    refine S.q rfl rfl (Qt.load rfl (Ld.slr (vs := [.int .i64 ((s.getD k (0, 0)).1 : Int), .int .u64 ((s.getD k (0, 0)).2 : Int)]) (Has.ro hP) Tryd.row164 Tryd.cells164 (Nat.zero_lt_succ _) (sdL_row h24))) ?_
    refine S.q rfl rfl (Qt.move (by conv => lhs; whnf)) ?_
    refine S.q rfl rfl (Qt.move (by conv => lhs; whnf)) ?_
    refine S.q rfl rfl (Qt.as (Qt.buildS (vs := [.int .i64 ((0 : Nat) : Int), .int .u64 (p : Int)]) (pls := #[(0, 1), (1, 1)]) Tryd.underlying164 (fun w => by kernel_rfl) Tryd.zero164 rfl ⟨rfl, rfl, trivial⟩ rfl) (show _ = encAt (0, p) from rfl)) ?_
    refine S.dec rfl rfl (Qt.eqAt (a := s.getD k (0, 0)) (b := (0, p)) (by kernel_rfl) Tryd.key182 rfl rfl) (fun h34 => ?_) (fun h34 => ?_)
    · refine S.nil ?_
      refine S.if_t rfl ?_
      refine TC.seq ?_
      refine S.draw ([5], []) Tryd.mixed (Sub.drop _ (Sub.keep _ (Sub.keep _ (Sub.nil [])))) ?_
      refine D.qX (k := 0) rfl (by kernel_rfl) (by kernel_rfl) (by kernel_rfl) rfl rfl (Qt.move (by conv => lhs; whnf)) ?_
      refine D.qX (k := 1) rfl (by kernel_rfl) (by kernel_rfl) (by kernel_rfl) rfl rfl (Qt.move (by conv => lhs; whnf)) ?_
      refine D.qX (k := 2) rfl (by kernel_rfl) (by kernel_rfl) (by kernel_rfl) rfl rfl (Qt.index Tryd.underlying25 Tryd.cells24 rfl rfl (by omega) (Has.ro hZ) (by rw [hcs_length]; omega)) ?_
      refine D.qX (k := 3) rfl (by kernel_rfl) (by kernel_rfl) (by kernel_rfl) rfl rfl (Qt.load rfl (Ld.hashS (Has.ro hZ) k Tryd.row24 Tryd.cells24 (by omega) rfl)) ?_
      refine D.qX (k := 4) rfl (by kernel_rfl) (by kernel_rfl) (by kernel_rfl) rfl rfl (Qt.assign (by conv => lhs; whnf)) ?_
      refine D.opN (k := 5) (Sub.drop _ (Sub.keep _ (Sub.keep _ (Sub.nil [])))) rfl (by kernel_rfl) (by kernel_rfl) rfl (OpV.storeV0 (v := hv (_)) rfl rfl (hv_size Tryd.cells24) (hv_all _) (hv_len _) ⟨Sub.drop _ (Sub.keep _ (Sub.keep _ (Sub.nil []))), ?_⟩)
      refine D.done (Sub.drop _ (Sub.keep _ (Sub.keep _ (Sub.nil [])))) (by kernel_rfl) ?_
      refine TC.ret ?_
      refine finQ.ret (RVs.tmp (by conv => lhs; whnf) (RVs.cell rfl (Ld.all (Has.at 0 rfl) Tryd.row24 (hv_size Tryd.cells24)) RVs.nil)) (Sub.trans (Sub.keep _ (Sub.keep _ (Sub.drop _ (Sub.nil [])))) (Sub.trans (Sub.keep _ (Sub.trans (Sub.keep _ (Sub.refl _)) (Sub.of_perm (List.perm_middle (l₁ := [_]))))) (Sub.of_perm (List.perm_middle (l₁ := [_, _]))))) ?_
      have hf := look_first (0, 0) h24 hsl hq h34
      exact ⟨none, 0, [], by rw [(refV_some hf).1]; rfl, rfl, by rw [(refV_some hf).2]; rfl⟩
    · refine S.nil ?_
      refine S.if_f rfl ?_
      refine TC.skip ?_
      refine TC.region ?_
      refine S.q rfl rfl (Qt.move (by conv => lhs; whnf)) ?_
      refine S.q rfl rfl (Qt.add (b := 1) rfl rfl (by simp only [kmax]; omega)) ?_
      refine S.q rfl rfl (Qt.assign (by conv => lhs; whnf)) ?_
      refine S.nil ?_
      refine ⟨k + 1, ?_, ?_, ⟨?_, (List.forall_mem_cons.2 ⟨rfl, (fun _ h => nomatch h)⟩)⟩, Sub.refl _⟩
      · exact ⟨by show _ ≤ _; omega, fun i hi => (Nat.lt_or_ge i k).elim (hq i) (fun h => by (obtain rfl : i = k := by omega); exact h34)⟩
      · show _ < _; dsimp only; omega
      repeat (first | exact Out.refl _ _ | refine Out.put rfl ?_ | refine Out.puts rfl ?_ | refine Out.scr ?_ | refine Out.scr' rfl ?_)
  · refine S.nil ?_
    refine S.if_f rfl ?_
    refine TC.exit ?_
    refine TC.seq ?_
    refine TC.seq ?_
    refine TC.region ?_
    have hno : Go.E.look (0, p) (s.zip bs) = none := look_missing (0, 0) (fun i hi => hq i (by omega))
    refine S.q rfl rfl (Qt.move (by conv => lhs; whnf)) ?_
    refine S.q rfl rfl (Qt.dT (Qt.eq (b := 0) rfl rfl) (rfl)) ?_
    refine S.nil ?_
    refine S.if_t rfl ?_
    refine TC.seq ?_
    refine TC.region ?_
    refine S.q rfl rfl (Qt.assign (by conv => lhs; whnf)) ?_
    refine S.nil ?_
    refine TC.block ?_
    refine TC.loop (γ := Nat) [41, 42, 43, 44, 47, 48, 49, 50, 51, 52, 53, 54, 55, 56, 12, 45, 46, 15] (fun j => [(15, .int .i64 (j : Int))]) (fun _ => _) (fun j => j ≤ xs.length ∧ ∀ i, i < j → xs.getD i 0 ≠ p) (fun j => xs.length - j) (0)
      ⟨Nat.zero_le _, fun i h => absurd h (Nat.not_lt_zero _)⟩ ⟨Out.refl _ _, (List.forall_mem_cons.2 ⟨rfl, (fun _ h => nomatch h)⟩)⟩ (Sub.refl _) ?_
    rintro j u ⟨hj, hq2⟩
    refine TC.seq ?_
    refine TC.seq ?_
    refine TC.region ?_
    refine S.q rfl rfl (Qt.move (by conv => lhs; whnf)) ?_
    refine S.q rfl rfl (Qt.move (by conv => lhs; whnf)) ?_
    refine S.q rfl rfl (Qt.len_slice Tryd.underlying42 rfl) ?_
    refine S.dec rfl rfl (Qt.lt rfl rfl) (fun h44 => ?_) (fun h44 => ?_)
    · refine S.nil ?_
      refine S.if_t rfl ?_
      refine TC.skip ?_
      refine TC.seq ?_
      refine TC.block ?_
      refine TC.seq ?_
      refine TC.region ?_
      refine S.q rfl rfl (Qt.move (by conv => lhs; whnf)) ?_
      refine S.q rfl rfl (Qt.move (by conv => lhs; whnf)) ?_
      refine S.q rfl rfl (Qt.index Tryd.underlying42 Tryd.cells22 rfl rfl (by omega) (Has.ro hR) (by rw [u64s_len]; omega)) ?_
      refine S.q rfl rfl (Qt.load rfl (Ld.sl (v := .int .u64 ((xs.getD j 0 : Nat) : Int)) (Has.ro hR) Tryd.one22 (u64s_get1 h44))) ?_
      refine S.q rfl rfl (Qt.move (by conv => lhs; whnf)) ?_
      refine S.dec rfl rfl (Qt.eq rfl rfl) (fun h52 => ?_) (fun h52 => ?_)
      · refine S.nil ?_
        refine S.if_t rfl ?_
        refine TC.seq ?_
        refine S.draw ([5], []) Tryd.mixed (Sub.drop _ (Sub.keep _ (Sub.keep _ (Sub.nil [])))) ?_
        refine D.qX (k := 0) rfl (by kernel_rfl) (by kernel_rfl) (by kernel_rfl) rfl rfl (Qt.move (by conv => lhs; whnf)) ?_
        refine D.qX (k := 1) rfl (by kernel_rfl) (by kernel_rfl) (by kernel_rfl) rfl rfl (Qt.move (by conv => lhs; whnf)) ?_
        refine D.qX (k := 2) rfl (by kernel_rfl) (by kernel_rfl) (by kernel_rfl) rfl rfl (Qt.index Tryd.underlying25 Tryd.cells24 rfl rfl (by omega) (Has.ro hB) (by rw [hcs_length]; omega)) ?_
        refine D.qX (k := 3) rfl (by kernel_rfl) (by kernel_rfl) (by kernel_rfl) rfl rfl (Qt.load rfl (Ld.hashS (Has.ro hB) j Tryd.row24 Tryd.cells24 (by omega) rfl)) ?_
        refine D.qX (k := 4) rfl (by kernel_rfl) (by kernel_rfl) (by kernel_rfl) rfl rfl (Qt.assign (by conv => lhs; whnf)) ?_
        refine D.opN (k := 5) (Sub.drop _ (Sub.keep _ (Sub.keep _ (Sub.nil [])))) rfl (by kernel_rfl) (by kernel_rfl) rfl (OpV.storeV0 (v := hv (_)) rfl rfl (hv_size Tryd.cells24) (hv_all _) (hv_len _) ⟨Sub.drop _ (Sub.keep _ (Sub.keep _ (Sub.nil []))), ?_⟩)
        refine D.done (Sub.drop _ (Sub.keep _ (Sub.keep _ (Sub.nil [])))) (by kernel_rfl) ?_
        refine TC.ret ?_
        refine finQ.ret (RVs.tmp (by conv => lhs; whnf) (RVs.cell rfl (Ld.all (Has.at 0 rfl) Tryd.row24 (hv_size Tryd.cells24)) RVs.nil)) (Sub.trans (Sub.keep _ (Sub.keep _ (Sub.drop _ (Sub.nil [])))) (Sub.trans (Sub.keep _ (Sub.trans (Sub.keep _ (Sub.refl _)) (Sub.of_perm (List.perm_middle (l₁ := [_]))))) (Sub.of_perm (List.perm_middle (l₁ := [_, _]))))) ?_
        have hf := look_first 0 h44 hxl hq2 h52
        exact ⟨none, 0, [], by rw [refV_leaf hno hf]; rfl, rfl, rfl⟩
      · refine S.nil ?_
        refine S.if_f rfl ?_
        refine TC.skip ?_
        refine TC.region ?_
        refine S.q rfl rfl (Qt.move (by conv => lhs; whnf)) ?_
        refine S.q rfl rfl (Qt.add (b := 1) rfl rfl (by simp only [kmax]; omega)) ?_
        refine S.q rfl rfl (Qt.assign (by conv => lhs; whnf)) ?_
        refine S.nil ?_
        refine ⟨j + 1, ?_, ?_, ⟨?_, (List.forall_mem_cons.2 ⟨rfl, (fun _ h => nomatch h)⟩)⟩, Sub.refl _⟩
        · exact ⟨by show _ ≤ _; omega, fun i hi => (Nat.lt_or_ge i j).elim (hq2 i) (fun h => by (obtain rfl : i = j := by omega); exact h52)⟩
        · show _ < _; dsimp only; omega
        repeat (first | exact Out.refl _ _ | refine Out.put rfl ?_ | refine Out.puts rfl ?_ | refine Out.scr ?_ | refine Out.scr' rfl ?_)
    · refine S.nil ?_
      refine S.if_f rfl ?_
      refine TC.exit ?_
      refine TC.seq ?_
      refine TC.region ?_
      exact (hok.leaf hno (look_missing 0 (fun i hi => hq2 i (by omega)))).elim
set_option maxHeartbeats 3200000 in
theorem rclimb10_walkS (height : Nat) (hh : height ≤ 32) (A : Option Addr) (c : Nat) (xs : List Nat) (B : Option Addr) (b : Nat) (ls : List H32) (P : Option Addr) (q : Nat) (s : Sd) (Z : Option Addr) (e : Nat) (bs : List H32) (hsl : s.length = bs.length) (hxl : xs.length = ls.length) (hsn : s.length ≤ 16384) (hn : xs.length ≤ 256) (l p : Nat) (w0 : World) (ho : okAt height (l + 1, p)) (hok : RefOk (s.zip bs) (xs.zip ls) (l + 1) p) (hR : Ro w0 [] (SlA A (u64s xs))) (hB : Ro w0 [] (SlA B (hcs ls))) (hP : Ro w0 [] (SlA P (sdL s))) (hZ : Ro w0 [] (SlA Z (hcs bs))) (hT : Tabs 2 0 w0 []) (hrec : RClimbC height A c xs B b ls P q s Z e bs l) :
    Calls Tryd.prog 57 #[.slice A xs.length c, .slice B ls.length b, .slice P s.length q, .slice Z bs.length e, .int .i64 ((l + 1 : Nat) : Int), .int .u64 (p : Int)] w0 (Post w0 [] fun v L => ∃ (O : Option Addr) (d : Nat) (tt : List Tx), v = .tuple #[.slice O tt.length d, hv (refV (s.zip bs) (xs.zip ls) (l + 1) (p))] ∧ L = [OwnA 64 1 O tt.length d (tt.flatMap txL), Many (tt.map txOwn)] ∧ tt.map (fun t => t.2.2) = refT (s.zip bs) (xs.zip ls) (l + 1) (p)) := by
  refine Calls.of (L := []) (n := 94) (rs := [.tmp 12, .cell 13 24]) Tryd.func57 rfl rfl rfl (Nat.le_of_ble_eq_true rfl) (Sat.nil _) ?_
  obtain ⟨hl32, hp32⟩ := okAt_lt hh ho
  refine TC.ownNil 64 1 ?_
  refine TC.manyNil ?_
  obtain ⟨okl, okr⟩ := okAt_kids ho
  refine TC.seq ?_
  refine TC.region ?_
  refine S.q rfl rfl (Qt.assign (by conv => lhs; whnf)) ?_
  refine S.opS rfl rfl (OpV.alloc Tryd.zero24 (fun b13 => ?_))
  refine S.nil ?_
  refine TC.seq ?_
  refine TC.seq ?_
  refine TC.region ?_
  refine S.q rfl rfl (Qt.assign (by conv => lhs; whnf)) ?_
  refine S.nil ?_
  refine TC.block ?_
  refine TC.loop (γ := Nat) [21, 22, 23, 24, 27, 28, 29, 30, 31, 32, 33, 34, 35, 36, 37, 38, 12, 25, 26, 14] (fun k => [(14, .int .i64 (k : Int))]) (fun _ => _) (fun k => k ≤ s.length ∧ ∀ i, i < k → s.getD i (0, 0) ≠ (l + 1, p)) (fun k => s.length - k) (0)
    ⟨Nat.zero_le _, fun i h => absurd h (Nat.not_lt_zero _)⟩ ⟨Out.refl _ _, (List.forall_mem_cons.2 ⟨rfl, (fun _ h => nomatch h)⟩)⟩ (Sub.refl _) ?_
  rintro k u ⟨hk, hq⟩
  refine TC.seq ?_
  refine TC.seq ?_
  refine TC.region ?_
  refine S.q rfl rfl (Qt.move (by conv => lhs; whnf)) ?_
  refine S.q rfl rfl (Qt.move (by conv => lhs; whnf)) ?_
  refine S.q rfl rfl (Qt.len_slice Tryd.underlying124 rfl) ?_
  refine S.dec rfl rfl (Qt.lt rfl rfl) (fun h24 => ?_) (fun h24 => ?_)
  · refine S.nil ?_
    refine S.if_t rfl ?_
    refine TC.skip ?_
    refine TC.seq ?_
    refine TC.block ?_
    refine TC.seq ?_
    refine TC.region ?_
    refine S.q rfl rfl (Qt.move (by conv => lhs; whnf)) ?_
    refine S.q rfl rfl (Qt.move (by conv => lhs; whnf)) ?_
    refine S.q rfl rfl (Qt.index Tryd.underlying124 Tryd.cells164 rfl rfl (by omega) (Has.ro hP) (by rw [sdL_len]; omega)) ?_
    refine S.q rfl rfl (Qt.load rfl (Ld.slr (vs := [.int .i64 ((s.getD k (0, 0)).1 : Int), .int .u64 ((s.getD k (0, 0)).2 : Int)]) (Has.ro hP) Tryd.row164 Tryd.cells164 (Nat.zero_lt_succ _) (sdL_row h24))) ?_
    refine S.q rfl rfl (Qt.move (by conv => lhs; whnf)) ?_
    refine S.q rfl rfl (Qt.move (by conv => lhs; whnf)) ?_
    refine S.q rfl rfl (Qt.as (Qt.buildS (vs := [.int .i64 ((l + 1 : Nat) : Int), .int .u64 (p : Int)]) (pls := #[(0, 1), (1, 1)]) Tryd.underlying164 (fun w => by kernel_rfl) Tryd.zero164 rfl ⟨rfl, rfl, trivial⟩ rfl) (show _ = encAt (l + 1, p) from rfl)) ?_
    refine S.dec rfl rfl (Qt.eqAt (a := s.getD k (0, 0)) (b := (l + 1, p)) (by kernel_rfl) Tryd.key182 rfl rfl) (fun h34 => ?_) (fun h34 => ?_)
    · refine S.nil ?_
      refine S.if_t rfl ?_
      refine TC.seq ?_
      refine S.draw ([5], []) Tryd.mixed (Sub.drop _ (Sub.keep _ (Sub.keep _ (Sub.nil [])))) ?_
      refine D.qX (k := 0) rfl (by kernel_rfl) (by kernel_rfl) (by kernel_rfl) rfl rfl (Qt.move (by conv => lhs; whnf)) ?_
      refine D.qX (k := 1) rfl (by kernel_rfl) (by kernel_rfl) (by kernel_rfl) rfl rfl (Qt.move (by conv => lhs; whnf)) ?_
      refine D.qX (k := 2) rfl (by kernel_rfl) (by kernel_rfl) (by kernel_rfl) rfl rfl (Qt.index Tryd.underlying25 Tryd.cells24 rfl rfl (by omega) (Has.ro hZ) (by rw [hcs_length]; omega)) ?_
      refine D.qX (k := 3) rfl (by kernel_rfl) (by kernel_rfl) (by kernel_rfl) rfl rfl (Qt.load rfl (Ld.hashS (Has.ro hZ) k Tryd.row24 Tryd.cells24 (by omega) rfl)) ?_
      refine D.qX (k := 4) rfl (by kernel_rfl) (by kernel_rfl) (by kernel_rfl) rfl rfl (Qt.assign (by conv => lhs; whnf)) ?_
      refine D.opN (k := 5) (Sub.drop _ (Sub.keep _ (Sub.keep _ (Sub.nil [])))) rfl (by kernel_rfl) (by kernel_rfl) rfl (OpV.storeV0 (v := hv (_)) rfl rfl (hv_size Tryd.cells24) (hv_all _) (hv_len _) ⟨Sub.drop _ (Sub.keep _ (Sub.keep _ (Sub.nil []))), ?_⟩)
      refine D.done (Sub.drop _ (Sub.keep _ (Sub.keep _ (Sub.nil [])))) (by kernel_rfl) ?_
      refine TC.ret ?_
      refine finQ.ret (RVs.tmp (by conv => lhs; whnf) (RVs.cell rfl (Ld.all (Has.at 0 rfl) Tryd.row24 (hv_size Tryd.cells24)) RVs.nil)) (Sub.trans (Sub.keep _ (Sub.keep _ (Sub.drop _ (Sub.nil [])))) (Sub.trans (Sub.keep _ (Sub.trans (Sub.keep _ (Sub.refl _)) (Sub.of_perm (List.perm_middle (l₁ := [_]))))) (Sub.of_perm (List.perm_middle (l₁ := [_, _]))))) ?_
      have hf := look_first (0, 0) h24 hsl hq h34
      exact ⟨none, 0, [], by rw [(refV_some hf).1]; rfl, rfl, by rw [(refV_some hf).2]; rfl⟩
    · refine S.nil ?_
      refine S.if_f rfl ?_
      refine TC.skip ?_
      refine TC.region ?_
      refine S.q rfl rfl (Qt.move (by conv => lhs; whnf)) ?_
      refine S.q rfl rfl (Qt.add (b := 1) rfl rfl (by simp only [kmax]; omega)) ?_
      refine S.q rfl rfl (Qt.assign (by conv => lhs; whnf)) ?_
      refine S.nil ?_
      refine ⟨k + 1, ?_, ?_, ⟨?_, (List.forall_mem_cons.2 ⟨rfl, (fun _ h => nomatch h)⟩)⟩, Sub.refl _⟩
      · exact ⟨by show _ ≤ _; omega, fun i hi => (Nat.lt_or_ge i k).elim (hq i) (fun h => by (obtain rfl : i = k := by omega); exact h34)⟩
      · show _ < _; dsimp only; omega
      repeat (first | exact Out.refl _ _ | refine Out.put rfl ?_ | refine Out.puts rfl ?_ | refine Out.scr ?_ | refine Out.scr' rfl ?_)
  · refine S.nil ?_
    refine S.if_f rfl ?_
    refine TC.exit ?_
    refine TC.seq ?_
    refine TC.seq ?_
    refine TC.region ?_
    have hno : Go.E.look (l + 1, p) (s.zip bs) = none := look_missing (0, 0) (fun i hi => hq i (by omega))
    obtain ⟨kl, kr⟩ := hok.kids hno
    have bl := kl.len
    have br := kr.len
    obtain ⟨eV, eT⟩ := refV_join hno
    refine S.q rfl rfl (Qt.move (by conv => lhs; whnf)) ?_
    refine S.q rfl rfl (Qt.dF (Qt.eq (b := 0) rfl rfl) (by omega)) ?_
    refine S.nil ?_
    refine S.if_f rfl ?_
    refine TC.skip ?_
    refine TC.seq ?_
    refine TC.region ?_
    refine S.q rfl rfl (Qt.move (by conv => lhs; whnf)) ?_
    refine S.q rfl rfl (Qt.move (by conv => lhs; whnf)) ?_
    refine S.q rfl rfl (Qt.move (by conv => lhs; whnf)) ?_
    refine S.q rfl rfl (Qt.move (by conv => lhs; whnf)) ?_
    refine S.q rfl rfl (Qt.move (by conv => lhs; whnf)) ?_
    refine S.q rfl rfl (Qt.as (Qt.sub (a := l + 1) (b := 1) rfl rfl (by omega) (by simp only [kmax]; omega)) (by rw [Nat.add_sub_cancel])) ?_
    refine S.q rfl rfl (Qt.move (by conv => lhs; whnf)) ?_
    refine S.q rfl rfl (Qt.mul (a := 2) rfl rfl (by simp only [kmax]; omega)) ?_
    refine S.opS rfl rfl (OpV.con (Pre := []) (R := _) Tryd.ent57 rfl (List.Perm.refl _) (fun w hw => hrec (2 * p) w okl kl (Rd.ro hR w hw) (Rd.ro hB w hw) (Rd.ro hP w hw) (Rd.ro hZ w hw) (hT.at hw)) ?_)
    rintro v L' ⟨O1, d1, t1, rfl, rfl, e1⟩
    have n1 := congrArg List.length e1
    rw [List.length_map] at n1
    refine S.q rfl rfl (Qt.move (by conv => lhs; whnf)) ?_
    refine S.q rfl rfl (Qt.extract rfl rfl) ?_
    refine S.q rfl rfl (Qt.extract rfl rfl) ?_
    refine S.opS rfl rfl (OpV.alloc Tryd.zero24 (fun b17 => ?_))
    refine S.q rfl rfl (Qt.assign (by conv => lhs; whnf)) ?_
    refine S.opN rfl (OpV.storeV0 (v := hv (_)) rfl rfl (hv_size Tryd.cells24) (hv_all _) (hv_len _) ?_)
    refine S.nil ?_
    refine TC.seq ?_
    refine TC.region ?_
    refine S.q rfl rfl (Qt.move (by conv => lhs; whnf)) ?_
    refine S.q rfl rfl (Qt.move (by conv => lhs; whnf)) ?_
    refine S.q rfl rfl (Qt.move (by conv => lhs; whnf)) ?_
    refine S.q rfl rfl (Qt.move (by conv => lhs; whnf)) ?_
    refine S.q rfl rfl (Qt.move (by conv => lhs; whnf)) ?_
    refine S.q rfl rfl (Qt.as (Qt.sub (a := l + 1) (b := 1) rfl rfl (by omega) (by simp only [kmax]; omega)) (by rw [Nat.add_sub_cancel])) ?_
    refine S.q rfl rfl (Qt.move (by conv => lhs; whnf)) ?_
    refine S.q rfl rfl (Qt.mul (a := 2) rfl rfl (by simp only [kmax]; omega)) ?_
    refine S.q rfl rfl (Qt.add (b := 1) rfl rfl (by simp only [kmax]; omega)) ?_
    refine S.opS rfl rfl (OpV.con (Pre := []) (R := _) Tryd.ent57 rfl (List.Perm.refl _) (fun w hw => hrec (2 * p + 1) w okr kr (Rd.ro hR w hw) (Rd.ro hB w hw) (Rd.ro hP w hw) (Rd.ro hZ w hw) (hT.at hw)) ?_)
    rintro v L' ⟨O2, d2, t2, rfl, rfl, e2⟩
    have n2 := congrArg List.length e2
    rw [List.length_map] at n2
    refine S.q rfl rfl (Qt.move (by conv => lhs; whnf)) ?_
    refine S.q rfl rfl (Qt.extract rfl rfl) ?_
    refine S.q rfl rfl (Qt.extract rfl rfl) ?_
    refine S.opS rfl rfl (OpV.alloc Tryd.zero24 (fun b19 => ?_))
    refine S.q rfl rfl (Qt.assign (by conv => lhs; whnf)) ?_
    refine S.opN rfl (OpV.storeV0 (v := hv (_)) rfl rfl (hv_size Tryd.cells24) (hv_all _) (hv_len _) ?_)
    refine S.nil ?_
    refine TC.seq ?_
    refine TC.region ?_
    refine S.q rfl rfl (Qt.move (by conv => lhs; whnf)) ?_
    refine S.q rfl rfl (Qt.load rfl (Ld.hash1 (x := refV (s.zip bs) (xs.zip ls) (l) (2 * p)) (Has.at 3 rfl) Tryd.row24 Tryd.cells24)) ?_
    refine S.q rfl rfl (Qt.load rfl (Ld.hash1 (x := refV (s.zip bs) (xs.zip ls) (l) (2 * p + 1)) (Has.at 0 rfl) Tryd.row24 Tryd.cells24)) ?_
    refine S.opS rfl rfl (OpV.con (Pre := []) (R := _) Tryd.ent50 rfl (List.Perm.refl _) (fun w hw => rjointext_walk (l + 1) (by omega) (refV (s.zip bs) (xs.zip ls) (l) (2 * p)) (refV (s.zip bs) (xs.zip ls) (l) (2 * p + 1)) w) ?_)
    rintro v L' ⟨Ot, dt, rfl, rfl⟩
    refine TL.manyTwo ((List.perm_middle (l₁ := [_, _, _, _, _, _])).trans (List.Perm.cons _ (List.perm_middle (l₁ := [_, _, _])))) ?_
    refine TL.manyJoin (List.perm_middle (l₁ := [_])) ?_
    refine S.q rfl rfl (Qt.assign (by conv => lhs; whnf)) ?_
    refine S.nil ?_
    refine TC.seq ?_
    refine TC.region ?_
    refine S.q rfl rfl (Qt.move (by conv => lhs; whnf)) ?_
    refine S.q rfl rfl (Qt.move (by conv => lhs; whnf)) ?_
    refine S.opS rfl rfl (OpV.app4 (bytes := 24) (news := t2.flatMap txL) Tryd.underlying71 Tryd.elem64 rfl rfl (Has.own (Has.at 2 rfl)) (by rw [txL_len, Nat.mul_one]) (txL_one _) (by simp only [maxLen]; omega) (by omega) (fun O3 d3 => ?_))
    refine S.q rfl rfl (Qt.move (by conv => lhs; whnf)) ?_
    refine S.opS rfl rfl (OpV.slice1 (bytes := 24) (v := .slice Ot (joinT (l + 1) (refV (s.zip bs) (xs.zip ls) (l) (2 * p)) (refV (s.zip bs) (xs.zip ls) (l) (2 * p + 1))).length dt) Tryd.underlying71 Tryd.elem64 (by decide) rfl rfl (fun g90 => ?_))
    refine S.opS rfl rfl (OpV.app5 (bytes := 24) (news := [.slice Ot (joinT (l + 1) (refV (s.zip bs) (xs.zip ls) (l) (2 * p)) (refV (s.zip bs) (xs.zip ls) (l) (2 * p + 1))).length dt]) Tryd.underlying71 Tryd.elem64 rfl rfl (Has.blk (cs := [.slice Ot (joinT (l + 1) (refV (s.zip bs) (xs.zip ls) (l) (2 * p)) (refV (s.zip bs) (xs.zip ls) (l) (2 * p + 1))).length dt]) (Has.at 0 rfl)) (rfl) (by intro u hu; rw [List.mem_singleton.1 hu]; rfl) (by simp only [maxLen]; omega) (by omega) (fun O4 d4 => ?_))
    refine S.q rfl rfl (Qt.move (by conv => lhs; whnf)) ?_
    refine S.opS rfl rfl (OpV.con0 Tryd.ent31 rfl (fun w hw => Calls.ret (rsum_walk Ot dt (joinT (l + 1) (refV (s.zip bs) (xs.zip ls) (l) (2 * p)) (refV (s.zip bs) (xs.zip ls) (l) (2 * p + 1))) w (Rd.own (e := 5) (sz := 1) (Rd.many (A := OwnA 5 1 Ot (joinT (l + 1) (refV (s.zip bs) (xs.zip ls) (l) (2 * p)) (refV (s.zip bs) (xs.zip ls) (l) (2 * p + 1))).length dt (bytesL (joinT (l + 1) (refV (s.zip bs) (xs.zip ls) (l) (2 * p)) (refV (s.zip bs) (xs.zip ls) (l) (2 * p + 1))))) (Rd.at 1 rfl) (List.mem_append.2 (.inr (List.mem_singleton.2 rfl)))) w hw) (by rw [joinT_length]; decide) (hT.at hw))) ?_)
    refine S.q rfl rfl (Qt.assign (by conv => lhs; whnf)) ?_
    refine S.opN rfl (OpV.storeV6 (v := hv (_)) rfl rfl (hv_size Tryd.cells24) (hv_all _) (hv_len _) ?_)
    refine S.nil ?_
    refine TC.ret ?_
    refine finQ.ret (RVs.tmp (by conv => lhs; whnf) (RVs.cell rfl (Ld.all (Has.at 6 rfl) Tryd.row24 (hv_size Tryd.cells24)) RVs.nil)) (Sub.trans (Sub.keep _ (Sub.keep _ (Sub.drop _ (Sub.drop _ (Sub.drop _ (Sub.drop _ (Sub.drop _ (Sub.drop _ (Sub.drop _ (Sub.nil [])))))))))) (Sub.trans (Sub.keep _ (Sub.trans (Sub.keep _ (Sub.refl _)) (Sub.of_perm (List.perm_middle (l₁ := [_]))))) (Sub.of_perm (List.perm_middle (l₁ := [_, _, _, _, _]))))) ?_
    refine ⟨O4, d4, t1 ++ t2 ++ [(Ot, dt, joinT (l + 1) (refV (s.zip bs) (xs.zip ls) (l) (2 * p)) (refV (s.zip bs) (xs.zip ls) (l) (2 * p + 1)))], ?_, ?_, ?_⟩
    · rw [eV]; simp only [List.length_append]; rfl
    · simp only [List.length_append, List.flatMap_append, List.map_append]; rfl
    · rw [eT, List.map_append, List.map_append, e1, e2]; rfl
theorem rclimb10_C (height : Nat) (hh : height ≤ 32) (A : Option Addr) (c : Nat) (xs : List Nat) (B : Option Addr) (b : Nat) (ls : List H32) (P : Option Addr) (q : Nat) (s : Sd) (Z : Option Addr) (e : Nat) (bs : List H32) (hsl : s.length = bs.length) (hxl : xs.length = ls.length) (hsn : s.length ≤ 16384) (hn : xs.length ≤ 256) : ∀ l, RClimbC height A c xs B b ls P q s Z e bs l
  | 0 => fun p w0 ho hok hR hB hP hZ hT => rclimb10_walk0 height hh A c xs B b ls P q s Z e bs hsl hxl hsn hn p w0 ho hok hR hB hP hZ hT
  | l + 1 => fun p w0 ho hok hR hB hP hZ hT => rclimb10_walkS height hh A c xs B b ls P q s Z e bs hsl hxl hsn hn l p w0 ho hok hR hB hP hZ hT (rclimb10_C height hh A c xs B b ls P q s Z e bs hsl hxl hsn hn l)

end Go.Proofs.YtgdjcmehlhebdaaDoor
namespace Go.Proofs.YtgdjcmehlhebdaaDoor
open Go.E
set_option linter.unusedVariables false
set_option maxRecDepth 4000
set_option maxHeartbeats 400000 in
theorem rtx_walk1 (z : Int) (A : Option Addr) (c : Nat) (xs : List Nat) (B : Option Addr) (b : Nat) (ls : List H32) (Z : Option Addr) (e : Nat) (bs : List H32) (hr : ∀ w, Ro w [] (SlA A (u64s xs)) → Calls Tryd.prog 55 #[.int .i64 z, .slice A xs.length c] w (Ret w (.bool false))) (w0 : World) (hR : Ro w0 [] (SlA A (u64s xs))) :
    Calls Tryd.prog 35 #[.int .i64 z, .slice A xs.length c, .slice B ls.length b, .slice Z bs.length e] w0 (Post w0 [] fun v L => v = .tuple #[.slice none 0 0, hv zeroH, .int .i64 1] ∧ L = []) := by
  refine Calls.of (L := []) (n := 45) (rs := [.tmp 8, .cell 9 24, .tmp 10]) Tryd.func35 rfl rfl rfl (Nat.le_of_ble_eq_true rfl) (Sat.nil _) ?_
  refine TC.seq ?_
  refine TC.region ?_
  refine S.q rfl rfl (Qt.assign (by conv => lhs; whnf)) ?_
  refine S.opS rfl rfl (OpV.alloc Tryd.zero24 (fun b9 => ?_))
  refine S.q rfl rfl (Qt.assign (by conv => lhs; whnf)) ?_
  refine S.nil ?_
  refine TC.seq ?_
  refine TC.seq ?_
  refine TC.region ?_
  refine S.q rfl rfl (Qt.move (by conv => lhs; whnf)) ?_
  refine S.q rfl rfl (Qt.move (by conv => lhs; whnf)) ?_
  refine S.opS rfl rfl (OpV.con0 Tryd.ent55 rfl (fun w hw => hr w (Rd.ro hR w hw)) ?_)
  refine S.q rfl rfl (Qt.not_f rfl) ?_
  refine S.nil ?_
  refine S.if_t rfl ?_
  refine TC.seq ?_
  refine TC.region ?_
  refine S.q rfl rfl (Qt.build (v := hv zeroH) rfl (fun _ => by kernel_rfl)) ?_
  refine S.q rfl rfl (Qt.assign (by conv => lhs; whnf)) ?_
  refine S.opN rfl (OpV.storeV0 (v := hv (zeroH)) rfl rfl (hv_size Tryd.cells24) (hv_all _) (hv_len _) ?_)
  refine S.q rfl rfl (Qt.assign (by conv => lhs; whnf)) ?_
  refine S.nil ?_
  refine TC.ret ?_
  refine finQ.ret (RVs.tmp (by conv => lhs; whnf) (RVs.cell rfl (Ld.all (Has.at 0 rfl) Tryd.row24 (hv_size Tryd.cells24)) (RVs.tmp (by conv => lhs; whnf) RVs.nil))) (Sub.nil _) ?_
  exact ⟨rfl, rfl⟩
set_option maxHeartbeats 400000 in
theorem rtx_walk2 (height : Nat) (hh : height ≤ 32) (A : Option Addr) (c : Nat) (xs : List Nat) (hc : xs.length ≤ c) (B : Option Addr) (b : Nat) (ls : List H32) (Z : Option Addr) (e : Nat) (bs : List H32) (hi : idxOk height xs) (h2 : ls.length ≠ xs.length) (w0 : World) (hlow : ∀ x ∈ xs, x < 18446744073709551616) (hR : Ro w0 [] (SlA A (u64s xs))) (hB : Ro w0 [] (SlA B (hcs ls))) (hD : Ro w0 [] (SlA Z (hcs bs))) :
    Calls Tryd.prog 35 #[.int .i64 (height : Int), .slice A xs.length c, .slice B ls.length b, .slice Z bs.length e] w0 (Post w0 [] fun v L => v = .tuple #[.slice none 0 0, hv zeroH, .int .i64 2] ∧ L = []) := by
  refine Calls.of (L := []) (n := 45) (rs := [.tmp 8, .cell 9 24, .tmp 10]) Tryd.func35 rfl rfl rfl (Nat.le_of_ble_eq_true rfl) (Sat.nil _) ?_
  refine TC.seq ?_
  refine TC.region ?_
  refine S.q rfl rfl (Qt.assign (by conv => lhs; whnf)) ?_
  refine S.opS rfl rfl (OpV.alloc Tryd.zero24 (fun b9 => ?_))
  refine S.q rfl rfl (Qt.assign (by conv => lhs; whnf)) ?_
  refine S.nil ?_
  refine TC.seq ?_
  refine TC.seq ?_
  refine TC.region ?_
  refine S.q rfl rfl (Qt.move (by conv => lhs; whnf)) ?_
  refine S.q rfl rfl (Qt.move (by conv => lhs; whnf)) ?_
  refine S.opS rfl rfl (OpV.con0 Tryd.ent55 rfl (fun w hw => rright10_T height hh A c xs hi w hlow (Rd.ro hR w hw)) ?_)
  refine S.q rfl rfl (Qt.not_t rfl) ?_
  refine S.nil ?_
  refine S.if_f rfl ?_
  refine TC.skip ?_
  refine TC.seq ?_
  refine TC.seq ?_
  refine TC.region ?_
  refine S.q rfl rfl (Qt.move (by conv => lhs; whnf)) ?_
  refine S.q rfl rfl (Qt.len_slice Tryd.underlying25 rfl) ?_
  refine S.q rfl rfl (Qt.move (by conv => lhs; whnf)) ?_
  refine S.q rfl rfl (Qt.len_slice Tryd.underlying42 rfl) ?_
  refine S.q rfl rfl (Qt.dT (Qt.ne rfl rfl) (h2)) ?_
  refine S.nil ?_
  refine S.if_t rfl ?_
  refine TC.seq ?_
  refine TC.region ?_
  refine S.q rfl rfl (Qt.build (v := hv zeroH) rfl (fun _ => by kernel_rfl)) ?_
  refine S.q rfl rfl (Qt.assign (by conv => lhs; whnf)) ?_
  refine S.opN rfl (OpV.storeV0 (v := hv (zeroH)) rfl rfl (hv_size Tryd.cells24) (hv_all _) (hv_len _) ?_)
  refine S.q rfl rfl (Qt.assign (by conv => lhs; whnf)) ?_
  refine S.nil ?_
  refine TC.ret ?_
  refine finQ.ret (RVs.tmp (by conv => lhs; whnf) (RVs.cell rfl (Ld.all (Has.at 0 rfl) Tryd.row24 (hv_size Tryd.cells24)) (RVs.tmp (by conv => lhs; whnf) RVs.nil))) (Sub.nil _) ?_
  exact ⟨rfl, rfl⟩
set_option maxHeartbeats 400000 in
theorem rtx_walk5 (height : Nat) (hh : height ≤ 32) (A : Option Addr) (c : Nat) (xs : List Nat) (hc : xs.length ≤ c) (B : Option Addr) (b : Nat) (ls : List H32) (Z : Option Addr) (e : Nat) (bs : List H32) (hi : idxOk height xs) (h2 : ls.length = xs.length) (h3 : bs.length ≠ (spots height xs 0).length) (w0 : World) (hlow : ∀ x ∈ xs, x < 18446744073709551616) (hR : Ro w0 [] (SlA A (u64s xs))) (hB : Ro w0 [] (SlA B (hcs ls))) (hD : Ro w0 [] (SlA Z (hcs bs))) :
    Calls Tryd.prog 35 #[.int .i64 (height : Int), .slice A xs.length c, .slice B ls.length b, .slice Z bs.length e] w0 (Post w0 [] fun v L => v = .tuple #[.slice none 0 0, hv zeroH, .int .i64 5] ∧ L = []) := by
  refine Calls.of (L := []) (n := 45) (rs := [.tmp 8, .cell 9 24, .tmp 10]) Tryd.func35 rfl rfl rfl (Nat.le_of_ble_eq_true rfl) (Sat.nil _) ?_
  have hse : rspots height xs 0 = spots height xs 0 := by rw [rspots_eq, cutN_all hi.root]
  have hsp : (rspots height xs 0).length ≤ 8193 := by have h1 := rspots_len height xs 0; have h2 : xs.length * height ≤ 256 * 32 := Nat.mul_le_mul hi.2.1 hh; omega
  refine TC.seq ?_
  refine TC.region ?_
  refine S.q rfl rfl (Qt.assign (by conv => lhs; whnf)) ?_
  refine S.opS rfl rfl (OpV.alloc Tryd.zero24 (fun b9 => ?_))
  refine S.q rfl rfl (Qt.assign (by conv => lhs; whnf)) ?_
  refine S.nil ?_
  refine TC.seq ?_
  refine TC.seq ?_
  refine TC.region ?_
  refine S.q rfl rfl (Qt.move (by conv => lhs; whnf)) ?_
  refine S.q rfl rfl (Qt.move (by conv => lhs; whnf)) ?_
  refine S.opS rfl rfl (OpV.con0 Tryd.ent55 rfl (fun w hw => rright10_T height hh A c xs hi w hlow (Rd.ro hR w hw)) ?_)
  refine S.q rfl rfl (Qt.not_t rfl) ?_
  refine S.nil ?_
  refine S.if_f rfl ?_
  refine TC.skip ?_
  refine TC.seq ?_
  refine TC.seq ?_
  refine TC.region ?_
  refine S.q rfl rfl (Qt.move (by conv => lhs; whnf)) ?_
  refine S.q rfl rfl (Qt.len_slice Tryd.underlying25 rfl) ?_
  refine S.q rfl rfl (Qt.move (by conv => lhs; whnf)) ?_
  refine S.q rfl rfl (Qt.len_slice Tryd.underlying42 rfl) ?_
  refine S.q rfl rfl (Qt.dF (Qt.ne rfl rfl) (fun k => k h2)) ?_
  refine S.nil ?_
  refine S.if_f rfl ?_
  refine TC.skip ?_
  refine TC.seq ?_
  refine TC.region ?_
  refine S.q rfl rfl (Qt.move (by conv => lhs; whnf)) ?_
  refine S.q rfl rfl (Qt.move (by conv => lhs; whnf)) ?_
  refine S.opS rfl rfl (OpV.con (Pre := []) (R := _) Tryd.ent56 rfl (List.Perm.refl _) (fun w hw => spot_C height hh A c xs hi.2.1 hlow height 0 w (okRoot height) (Rd.ro hR w hw)) ?_)
  rintro v L' ⟨P0, sd, rfl, rfl⟩
  refine S.q rfl rfl (Qt.assign (by conv => lhs; whnf)) ?_
  refine S.nil ?_
  refine TC.seq ?_
  refine TC.seq ?_
  refine TC.region ?_
  refine S.q rfl rfl (Qt.move (by conv => lhs; whnf)) ?_
  refine S.q rfl rfl (Qt.len_slice Tryd.underlying25 rfl) ?_
  refine S.q rfl rfl (Qt.move (by conv => lhs; whnf)) ?_
  refine S.q rfl rfl (Qt.len_slice Tryd.underlying124 rfl) ?_
  refine S.q rfl rfl (Qt.dT (Qt.ne rfl rfl) (by rw [hse]; exact h3)) ?_
  refine S.nil ?_
  refine S.if_t rfl ?_
  refine TC.seq ?_
  refine TC.region ?_
  refine S.q rfl rfl (Qt.build (v := hv zeroH) rfl (fun _ => by kernel_rfl)) ?_
  refine S.q rfl rfl (Qt.assign (by conv => lhs; whnf)) ?_
  refine S.opN rfl (OpV.storeV1 (v := hv (zeroH)) rfl rfl (hv_size Tryd.cells24) (hv_all _) (hv_len _) ?_)
  refine S.q rfl rfl (Qt.assign (by conv => lhs; whnf)) ?_
  refine S.nil ?_
  refine TC.ret ?_
  refine finQ.ret (RVs.tmp (by conv => lhs; whnf) (RVs.cell rfl (Ld.all (Has.at 1 rfl) Tryd.row24 (hv_size Tryd.cells24)) (RVs.tmp (by conv => lhs; whnf) RVs.nil))) (Sub.nil _) ?_
  exact ⟨rfl, rfl⟩
set_option maxHeartbeats 400000 in
theorem rtx_walk0 (height : Nat) (hh : height ≤ 32) (A : Option Addr) (c : Nat) (xs : List Nat) (hc : xs.length ≤ c) (B : Option Addr) (b : Nat) (ls : List H32) (Z : Option Addr) (e : Nat) (bs : List H32) (hi : idxOk height xs) (h2 : ls.length = xs.length) (h3 : bs.length = (spots height xs 0).length) (w0 : World) (hlow : ∀ x ∈ xs, x < 18446744073709551616) (hR : Ro w0 [] (SlA A (u64s xs))) (hB : Ro w0 [] (SlA B (hcs ls))) (hD : Ro w0 [] (SlA Z (hcs bs))) (hT : Tabs 2 0 w0 []) :
    Calls Tryd.prog 35 #[.int .i64 (height : Int), .slice A xs.length c, .slice B ls.length b, .slice Z bs.length e] w0 (Post w0 [] fun v L => ∃ (O : Option Addr) (d : Nat) (tt : List Tx), v = .tuple #[.slice O tt.length d, hv (climbV height xs 0 ls bs), .int .i64 0] ∧ L = [OwnA 64 1 O tt.length d (tt.flatMap txL), Many (tt.map txOwn)] ∧ tt.map (fun t => t.2.2) = climbT height xs 0 ls bs) := by
  refine Calls.of (L := []) (n := 45) (rs := [.tmp 8, .cell 9 24, .tmp 10]) Tryd.func35 rfl rfl rfl (Nat.le_of_ble_eq_true rfl) (Sat.nil _) ?_
  have hse : rspots height xs 0 = spots height xs 0 := by rw [rspots_eq, cutN_all hi.root]
  have hsp : (rspots height xs 0).length ≤ 8193 := by have h1 := rspots_len height xs 0; have h2 : xs.length * height ≤ 256 * 32 := Nat.mul_le_mul hi.2.1 hh; omega
  have hn := hi.2.1
  have hpart : Part ((rspots height xs 0).zip bs) (xs.zip ls) height 0 xs ls bs := by rw [hse]; exact Part.start hi h2 h3
  refine TC.seq ?_
  refine TC.region ?_
  refine S.q rfl rfl (Qt.assign (by conv => lhs; whnf)) ?_
  refine S.opS rfl rfl (OpV.alloc Tryd.zero24 (fun b9 => ?_))
  refine S.q rfl rfl (Qt.assign (by conv => lhs; whnf)) ?_
  refine S.nil ?_
  refine TC.seq ?_
  refine TC.seq ?_
  refine TC.region ?_
  refine S.q rfl rfl (Qt.move (by conv => lhs; whnf)) ?_
  refine S.q rfl rfl (Qt.move (by conv => lhs; whnf)) ?_
  refine S.opS rfl rfl (OpV.con0 Tryd.ent55 rfl (fun w hw => rright10_T height hh A c xs hi w hlow (Rd.ro hR w hw)) ?_)
  refine S.q rfl rfl (Qt.not_t rfl) ?_
  refine S.nil ?_
  refine S.if_f rfl ?_
  refine TC.skip ?_
  refine TC.seq ?_
  refine TC.seq ?_
  refine TC.region ?_
  refine S.q rfl rfl (Qt.move (by conv => lhs; whnf)) ?_
  refine S.q rfl rfl (Qt.len_slice Tryd.underlying25 rfl) ?_
  refine S.q rfl rfl (Qt.move (by conv => lhs; whnf)) ?_
  refine S.q rfl rfl (Qt.len_slice Tryd.underlying42 rfl) ?_
  refine S.q rfl rfl (Qt.dF (Qt.ne rfl rfl) (fun k => k h2)) ?_
  refine S.nil ?_
  refine S.if_f rfl ?_
  refine TC.skip ?_
  refine TC.seq ?_
  refine TC.region ?_
  refine S.q rfl rfl (Qt.move (by conv => lhs; whnf)) ?_
  refine S.q rfl rfl (Qt.move (by conv => lhs; whnf)) ?_
  refine S.opS rfl rfl (OpV.con (Pre := []) (R := _) Tryd.ent56 rfl (List.Perm.refl _) (fun w hw => spot_C height hh A c xs hi.2.1 hlow height 0 w (okRoot height) (Rd.ro hR w hw)) ?_)
  rintro v L' ⟨P0, sd, rfl, rfl⟩
  refine S.q rfl rfl (Qt.assign (by conv => lhs; whnf)) ?_
  refine S.nil ?_
  refine TC.seq ?_
  refine TC.seq ?_
  refine TC.region ?_
  refine S.q rfl rfl (Qt.move (by conv => lhs; whnf)) ?_
  refine S.q rfl rfl (Qt.len_slice Tryd.underlying25 rfl) ?_
  refine S.q rfl rfl (Qt.move (by conv => lhs; whnf)) ?_
  refine S.q rfl rfl (Qt.len_slice Tryd.underlying124 rfl) ?_
  refine S.q rfl rfl (Qt.dF (Qt.ne rfl rfl) (fun k => k (by rw [hse]; exact h3))) ?_
  refine S.nil ?_
  refine S.if_f rfl ?_
  refine TC.skip ?_
  refine TC.seq ?_
  refine TC.region ?_
  refine S.q rfl rfl (Qt.move (by conv => lhs; whnf)) ?_
  refine S.q rfl rfl (Qt.move (by conv => lhs; whnf)) ?_
  refine S.q rfl rfl (Qt.move (by conv => lhs; whnf)) ?_
  refine S.q rfl rfl (Qt.move (by conv => lhs; whnf)) ?_
  refine S.q rfl rfl (Qt.move (by conv => lhs; whnf)) ?_
  refine S.opS rfl rfl (OpV.con (Pre := []) (R := _) Tryd.ent57 rfl (List.Perm.refl _) (fun w hw => rclimb10_C height hh A c xs B b ls P0 sd (rspots height xs 0) Z e bs (by rw [hse]; exact h3.symm) h2.symm (by omega) hn height 0 w (okRoot height) ⟨xs, ls, bs, hpart, hn⟩ (Rd.ro hR w hw) (Rd.ro hB w hw) (Rd.own (Rd.at 0 rfl) w hw) (Rd.ro hD w hw) (hT.at hw)) ?_)
  rintro v L' ⟨O, d, tt, rfl, rfl, ett⟩
  refine S.q rfl rfl (Qt.move (by conv => lhs; whnf)) ?_
  refine S.q rfl rfl (Qt.extract rfl rfl) ?_
  refine S.q rfl rfl (Qt.extract rfl rfl) ?_
  refine S.opS rfl rfl (OpV.alloc Tryd.zero24 (fun b13 => ?_))
  refine S.q rfl rfl (Qt.assign (by conv => lhs; whnf)) ?_
  refine S.opN rfl (OpV.storeV0 (v := hv (_)) rfl rfl (hv_size Tryd.cells24) (hv_all _) (hv_len _) ?_)
  refine S.nil ?_
  refine TC.seq ?_
  refine S.draw ([3], []) Tryd.mixed (Sub.keep _ (Sub.keep _ (Sub.keep _ (Sub.keep _ (Sub.drop _ (Sub.nil [])))))) ?_
  refine D.qX (k := 0) rfl (by kernel_rfl) (by kernel_rfl) (by kernel_rfl) rfl rfl (Qt.move (by conv => lhs; whnf)) ?_
  refine D.qX (k := 1) rfl (by kernel_rfl) (by kernel_rfl) (by kernel_rfl) rfl rfl (Qt.load rfl (Ld.hash1 (x := refV ((rspots height xs 0).zip bs) (xs.zip ls) height 0) (Has.at 0 rfl) Tryd.row24 Tryd.cells24)) ?_
  refine D.qX (k := 2) rfl (by kernel_rfl) (by kernel_rfl) (by kernel_rfl) rfl rfl (Qt.assign (by conv => lhs; whnf)) ?_
  refine D.opN (k := 3) (Sub.keep _ (Sub.keep _ (Sub.keep _ (Sub.keep _ (Sub.drop _ (Sub.nil [])))))) rfl (by kernel_rfl) (by kernel_rfl) rfl (OpV.storeV4 (v := hv (_)) rfl rfl (hv_size Tryd.cells24) (hv_all _) (hv_len _) ⟨Sub.keep _ (Sub.keep _ (Sub.keep _ (Sub.keep _ (Sub.drop _ (Sub.nil []))))), ?_⟩)
  refine D.qX (k := 4) rfl (by kernel_rfl) (by kernel_rfl) (by kernel_rfl) rfl rfl (Qt.assign (by conv => lhs; whnf)) ?_
  refine D.done (Sub.keep _ (Sub.keep _ (Sub.keep _ (Sub.keep _ (Sub.drop _ (Sub.nil [])))))) (by kernel_rfl) ?_
  refine TC.ret ?_
  refine finQ.ret (RVs.tmp (by conv => lhs; whnf) (RVs.cell rfl (Ld.all (Has.at 4 rfl) Tryd.row24 (hv_size Tryd.cells24)) (RVs.tmp (by conv => lhs; whnf) RVs.nil))) (Sub.trans (Sub.keep _ (Sub.keep _ (Sub.drop _ (Sub.drop _ (Sub.drop _ (Sub.nil [])))))) (Sub.trans (Sub.keep _ (Sub.trans (Sub.keep _ (Sub.refl _)) (Sub.of_perm (List.perm_middle (l₁ := [_]))))) (Sub.of_perm (List.perm_middle (l₁ := [_]))))) ?_
  rw [Part.val height 0 xs ls bs hpart]
  rw [Part.txt height 0 xs ls bs hpart] at ett
  exact ⟨O, d, tt, rfl, rfl, ett⟩
set_option maxHeartbeats 400000 in
theorem txt_walkE (z : Int) (k : Nat) (A : Option Addr) (c : Nat) (xs : List Nat) (B : Option Addr) (b : Nat) (ls : List H32) (Z : Option Addr) (e : Nat) (bs : List H32) (hce : ∀ w, Ro w [] (SlA A (u64s xs)) → Ro w [] (SlA B (hcs ls)) → Ro w [] (SlA Z (hcs bs)) → Calls Tryd.prog 36 #[.int .i64 z, .slice A xs.length c, .slice B ls.length b, .slice Z bs.length e] w (Ret w (.tuple #[hv zeroH, .slice none 0 0, .iface 83 (.int .i64 (k : Int))]))) (w0 : World) (hR : Ro w0 [] (SlA A (u64s xs))) (hB : Ro w0 [] (SlA B (hcs ls))) (hD : Ro w0 [] (SlA Z (hcs bs))) :
    Calls Tryd.prog 34 #[.int .i64 z, .slice A xs.length c, .slice B ls.length b, .slice Z bs.length e] w0 (Post w0 [] fun v L => v = .tuple #[.slice none 0 0, .iface 83 (.int .i64 (k : Int))] ∧ L = []) := by
  refine Calls.of (L := []) (n := 24) (rs := [.tmp 8, .tmp 9]) Tryd.func34 rfl rfl rfl (Nat.le_of_ble_eq_true rfl) (Sat.nil _) ?_
  refine TC.seq ?_
  refine TC.region ?_
  refine S.q rfl rfl (Qt.assign (by conv => lhs; whnf)) ?_
  refine S.q rfl rfl (Qt.assign (by conv => lhs; whnf)) ?_
  refine S.nil ?_
  refine TC.seq ?_
  refine TC.region ?_
  refine S.q rfl rfl (Qt.move (by conv => lhs; whnf)) ?_
  refine S.q rfl rfl (Qt.move (by conv => lhs; whnf)) ?_
  refine S.q rfl rfl (Qt.move (by conv => lhs; whnf)) ?_
  refine S.q rfl rfl (Qt.move (by conv => lhs; whnf)) ?_
  refine S.opS rfl rfl (OpV.con0 Tryd.ent36 rfl (fun w hw => hce w (Rd.ro hR w hw) (Rd.ro hB w hw) (Rd.ro hD w hw)) ?_)
  refine S.q rfl rfl (Qt.move (by conv => lhs; whnf)) ?_
  refine S.q rfl rfl (Qt.extract rfl rfl) ?_
  refine S.q rfl rfl (Qt.extract rfl rfl) ?_
  refine S.q rfl rfl (Qt.extract rfl rfl) ?_
  refine S.opS rfl rfl (OpV.alloc Tryd.zero24 (fun b10 => ?_))
  refine S.opN rfl (OpV.storeV0 (v := hv (_)) rfl rfl (hv_size Tryd.cells24) (hv_all _) (hv_len _) ?_)
  refine S.q rfl rfl (Qt.assign (by conv => lhs; whnf)) ?_
  refine S.q rfl rfl (Qt.assign (by conv => lhs; whnf)) ?_
  refine S.nil ?_
  refine TC.seq ?_
  refine TC.region ?_
  refine S.q rfl rfl (Qt.move (by conv => lhs; whnf)) ?_
  refine S.q rfl rfl (Qt.move (by conv => lhs; whnf)) ?_
  refine S.q rfl rfl (Qt.assign (by conv => lhs; whnf)) ?_
  refine S.q rfl rfl (Qt.assign (by conv => lhs; whnf)) ?_
  refine S.nil ?_
  refine TC.ret ?_
  refine finQ.ret (RVs.tmp (by conv => lhs; whnf) (RVs.tmp (by conv => lhs; whnf) RVs.nil)) (Sub.nil _) ?_
  exact ⟨rfl, rfl⟩
set_option maxHeartbeats 400000 in
theorem txt_walk0 (height : Nat) (hh : height ≤ 32) (A : Option Addr) (c : Nat) (xs : List Nat) (hc : xs.length ≤ c) (B : Option Addr) (b : Nat) (ls : List H32) (Z : Option Addr) (e : Nat) (bs : List H32) (hi : idxOk height xs) (h2 : ls.length = xs.length) (h3 : bs.length = (spots height xs 0).length) (hb : ls.length ≤ b) (hbs : bs.length ≤ e) (w0 : World) (hlow : ∀ x ∈ xs, x < 18446744073709551616) (hR : Ro w0 [] (SlA A (u64s xs))) (hB : Ro w0 [] (SlA B (hcs ls))) (hD : Ro w0 [] (SlA Z (hcs bs))) (hT : Tabs 3 1 w0 []) :
    Calls Tryd.prog 34 #[.int .i64 (height : Int), .slice A xs.length c, .slice B ls.length b, .slice Z bs.length e] w0 (Post w0 [] fun v L => ∃ (O : Option Addr) (d : Nat) (tt : List Tx), v = .tuple #[.slice O tt.length d, .nilIface] ∧ L = [OwnA 64 1 O tt.length d (tt.flatMap txL), Many (tt.map txOwn)] ∧ tt.map (fun t => t.2.2) = climbT height xs 0 ls bs) := by
  refine Calls.of (L := []) (n := 24) (rs := [.tmp 8, .tmp 9]) Tryd.func34 rfl rfl rfl (Nat.le_of_ble_eq_true rfl) (Sat.nil _) ?_
  refine TC.seq ?_
  refine TC.region ?_
  refine S.q rfl rfl (Qt.assign (by conv => lhs; whnf)) ?_
  refine S.q rfl rfl (Qt.assign (by conv => lhs; whnf)) ?_
  refine S.nil ?_
  refine TC.seq ?_
  refine TC.region ?_
  refine S.q rfl rfl (Qt.move (by conv => lhs; whnf)) ?_
  refine S.q rfl rfl (Qt.move (by conv => lhs; whnf)) ?_
  refine S.q rfl rfl (Qt.move (by conv => lhs; whnf)) ?_
  refine S.q rfl rfl (Qt.move (by conv => lhs; whnf)) ?_
  refine S.opS rfl rfl (OpV.con (Pre := []) (R := _) Tryd.ent36 rfl (List.Perm.refl _) (fun w hw => come_walk0 height hh A c xs hc B b ls Z e bs hi h2 h3 hb hbs w hlow (Rd.ro hR w hw) (Rd.ro hB w hw) (Rd.ro hD w hw) (hT.at hw)) ?_)
  rintro v L' ⟨O, d, tt, rfl, rfl, ett⟩
  refine S.q rfl rfl (Qt.move (by conv => lhs; whnf)) ?_
  refine S.q rfl rfl (Qt.extract rfl rfl) ?_
  refine S.q rfl rfl (Qt.extract rfl rfl) ?_
  refine S.q rfl rfl (Qt.extract rfl rfl) ?_
  refine S.opS rfl rfl (OpV.alloc Tryd.zero24 (fun b10 => ?_))
  refine S.opN rfl (OpV.storeV0 (v := hv (_)) rfl rfl (hv_size Tryd.cells24) (hv_all _) (hv_len _) ?_)
  refine S.q rfl rfl (Qt.assign (by conv => lhs; whnf)) ?_
  refine S.q rfl rfl (Qt.assign (by conv => lhs; whnf)) ?_
  refine S.nil ?_
  refine TC.seq ?_
  refine TC.region ?_
  refine S.q rfl rfl (Qt.move (by conv => lhs; whnf)) ?_
  refine S.q rfl rfl (Qt.move (by conv => lhs; whnf)) ?_
  refine S.q rfl rfl (Qt.assign (by conv => lhs; whnf)) ?_
  refine S.q rfl rfl (Qt.assign (by conv => lhs; whnf)) ?_
  refine S.nil ?_
  refine TC.ret ?_
  refine finQ.ret (RVs.tmp (by conv => lhs; whnf) (RVs.tmp (by conv => lhs; whnf) RVs.nil)) (Sub.trans (Sub.keep _ (Sub.keep _ (Sub.drop _ (Sub.nil [])))) (Sub.trans (Sub.keep _ (Sub.trans (Sub.keep _ (Sub.refl _)) (Sub.of_perm (List.perm_middle (l₁ := [_]))))) (Sub.of_perm (List.perm_middle (l₁ := [_]))))) ?_
  exact ⟨O, d, tt, rfl, rfl, ett⟩
theorem rtx_F1 (z : Int) (A : Option Addr) (c : Nat) (xs : List Nat) (hc : xs.length ≤ c) (B : Option Addr) (b : Nat) (ls : List H32) (Z : Option Addr) (e : Nat) (bs : List H32) (h : z < 0 ∨ 32 < z ∨ ∃ height : Nat, z = (height : Int) ∧ height ≤ 32 ∧ ¬ idxOk height xs) (hlow : ∀ x ∈ xs, x < 18446744073709551616) (w : World) (hR : Ro w [] (SlA A (u64s xs))) : Calls Tryd.prog 35 #[.int .i64 z, .slice A xs.length c, .slice B ls.length b, .slice Z bs.length e] w (Ret w (.tuple #[.slice none 0 0, hv zeroH, .int .i64 1])) := by
  refine Calls.ret (rtx_walk1 z A c xs B b ls Z e bs (fun w1 h1 => ?_) w hR)
  rcases h with h | h | ⟨height, rfl, hh, hi⟩
  · exact rright10Z_R z (.inl h) A c xs w1
  · exact rright10Z_R z (.inr h) A c xs w1
  · exact rright10_F height hh A c xs hi w1 hlow h1

end Go.Proofs.YtgdjcmehlhebdaaDoor
