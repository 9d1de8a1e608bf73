/-
  Walks: the two trees side by side. Printed by a program of ours.
-/
import Derived.Test.YtlneklemjfefpaaDoorTG
namespace Go.Proofs.YtlneklemjfefpaaDoor
open Go.E
set_option linter.unusedVariables false
set_option maxRecDepth 4000

theorem rhas_T (height l p : Nat) (hh : height ≤ 32) (ho : okAt height (l, p)) (A : Option Addr) (n c : Nat) (O : Option Addr) (d : Nat) (w0 : World) : Calls Tryd.prog 34 #[.agg #[.int .i64 (height : Int), .slice A n c, .slice O 33 d], .int .i64 (l : Int), .int .u64 (p : Int)] w0 (Ret w0 (.bool true)) := by
  have h := rhas_R height l p hh (by have := okAt_lt hh ho; omega) A n c O d w0
  rwa [decide_eq_true ho] at h
theorem rhas_F (height l p : Nat) (hh : height ≤ 32) (hp : p < 18446744073709551616) (ho : ¬ okAt height (l, p)) (A : Option Addr) (n c : Nat) (O : Option Addr) (d : Nat) (w0 : World) : Calls Tryd.prog 34 #[.agg #[.int .i64 (height : Int), .slice A n c, .slice O 33 d], .int .i64 (l : Int), .int .u64 (p : Int)] w0 (Ret w0 (.bool false)) := by
  have h := rhas_R height l p hh hp A n c O d w0
  rwa [decide_eq_false ho] at h
theorem actL_bool (a : Go.E.Act) : (vl (.agg (actL a).toArray))[33]? = some (.bool a.d) := by
  rw [vl_agg, actL, show 33 = 32 + 1 from rfl, List.getElem?_cons_succ, List.getElem?_append_right (by rw [hvl_length]; decide), hvl_length]; rfl

set_option maxHeartbeats 400000 in
theorem is_walk (k n : Nat) (w0 : World) :
    Calls Tryd.prog 35 #[errv 58 k, .int .i64 (n : Int)] w0 (Post w0 [] fun v L => v = .bool (decide (k = n)) ∧ L = []) := by
  refine Calls.of (L := []) (n := 9) (rs := [.tmp 4]) Tryd.func35 rfl rfl rfl (Nat.le_of_ble_eq_true rfl) (Sat.nil _) ?_
  refine TC.seq ?_
  refine TC.region ?_
  refine S.q rfl rfl (Qt.assign (by conv => lhs; whnf)) ?_
  refine S.nil ?_
  refine TC.seq ?_
  refine TC.region ?_
  refine S.q rfl rfl (Qt.move (by conv => lhs; whnf)) ?_
  refine S.opS rfl rfl (OpV.con0 Tryd.ent24 rfl (fun w hw => num_R k w) ?_)
  refine S.q rfl rfl (Qt.move (by conv => lhs; whnf)) ?_
  refine S.q rfl rfl (Qt.eq rfl rfl) ?_
  refine S.q rfl rfl (Qt.assign (by conv => lhs; whnf)) ?_
  refine S.nil ?_
  refine TC.ret ?_
  refine finQ.ret (RVs.tmp (by conv => lhs; whnf) RVs.nil) (Sub.nil _) ?_
  exact ⟨rfl, rfl⟩
theorem is_R (k n : Nat) (w0 : World) : Calls Tryd.prog 35 #[errv 58 k, .int .i64 (n : Int)] w0 (Ret w0 (.bool (decide (k = n)))) := Calls.ret (is_walk k n w0)
theorem is1 (w : World) : Calls Tryd.prog 35 #[.iface 58 (.int .i64 1), .int .i64 1] w (Ret w (.bool true)) := is_R 1 1 w

set_option maxHeartbeats 400000 in
theorem hashes_walk (A : Option Addr) (c : Nat) (B : Option Addr) (d : Nat) (xs : List H32) (hx : xs.length ≤ 4096) (w0 : World) (hA : Ro w0 [] (SlA A (hcs xs))) (hB : Ro w0 [] (SlA B (hcs xs))) :
    Calls Tryd.prog 37 #[.slice A xs.length c, .slice B xs.length d] w0 (Post w0 [] fun v L => v = .bool true ∧ L = []) := by
  refine Calls.of (L := []) (n := 26) (rs := [.tmp 4]) Tryd.func37 rfl rfl rfl (Nat.le_of_ble_eq_true rfl) (Sat.nil _) ?_
  refine TC.seq ?_
  refine TC.region ?_
  refine S.q rfl rfl (Qt.assign (by conv => lhs; whnf)) ?_
  refine S.nil ?_
  refine TC.seq ?_
  refine TC.seq ?_
  refine TC.region ?_
  refine S.q rfl rfl (Qt.move (by conv => lhs; whnf)) ?_
  refine S.q rfl rfl (Qt.len_slice Tryd.underlying44 rfl) ?_
  refine S.q rfl rfl (Qt.move (by conv => lhs; whnf)) ?_
  refine S.q rfl rfl (Qt.len_slice Tryd.underlying44 rfl) ?_
  refine S.q rfl rfl (Qt.dF (Qt.ne rfl rfl) (fun h => h rfl)) ?_
  refine S.nil ?_
  refine S.if_f rfl ?_
  refine TC.skip ?_
  refine TC.seq ?_
  refine TC.seq ?_
  refine TC.region ?_
  refine S.q rfl rfl (Qt.move (by conv => lhs; whnf)) ?_
  refine S.q rfl rfl (Qt.len_slice Tryd.underlying44 rfl) ?_
  refine S.q rfl rfl (Qt.move (by conv => lhs; whnf)) ?_
  refine S.nil ?_
  refine TC.block ?_
  refine TC.loop (γ := Nat) [14, 15, 5, 16, 17, 18, 19, 20, 21, 22, 23, 24, 4, 25, 13] (fun k => [(13, .int .i64 (k : Int))]) (fun _ => _) (fun k => k ≤ xs.length) (fun k => xs.length - k) (0)
    (Nat.zero_le _) ⟨Out.refl _ _, (List.forall_mem_cons.2 ⟨rfl, (fun _ h => nomatch h)⟩)⟩ (Sub.refl _) ?_
  rintro k u hk
  refine TC.seq ?_
  refine TC.region ?_
  refine S.dec rfl rfl (Qt.lt rfl rfl) (fun h14 => ?_) (fun h14 => ?_)
  · refine S.nil ?_
    refine TC.seq ?_
    refine S.if_t rfl ?_
    refine TC.skip ?_
    refine TC.seq ?_
    refine TC.block ?_
    refine TC.seq ?_
    refine TC.region ?_
    refine S.q rfl rfl (Qt.move (by conv => lhs; whnf)) ?_
    refine S.q rfl rfl (Qt.assign (by conv => lhs; whnf)) ?_
    refine S.nil ?_
    refine TC.seq ?_
    refine S.draw ([], []) Tryd.mixed (Sub.refl _) ?_
    refine D.qX (k := 0) rfl (by kernel_rfl) (by kernel_rfl) (by kernel_rfl) rfl rfl (Qt.move (by conv => lhs; whnf)) ?_
    refine D.qX (k := 1) rfl (by kernel_rfl) (by kernel_rfl) (by kernel_rfl) rfl rfl (Qt.move (by conv => lhs; whnf)) ?_
    refine D.qX (k := 2) rfl (by kernel_rfl) (by kernel_rfl) (by kernel_rfl) rfl rfl (Qt.index Tryd.underlying44 Tryd.cells23 rfl rfl (by omega) (Has.ro hA) (by rw [hcs_length]; omega)) ?_
    refine D.qX (k := 3) rfl (by kernel_rfl) (by kernel_rfl) (by kernel_rfl) rfl rfl (Qt.load rfl (Ld.hashS (Has.ro hA) k Tryd.row23 Tryd.cells23 (by omega) rfl)) ?_
    refine D.qX (k := 4) rfl (by kernel_rfl) (by kernel_rfl) (by kernel_rfl) rfl rfl (Qt.move (by conv => lhs; whnf)) ?_
    refine D.qX (k := 5) rfl (by kernel_rfl) (by kernel_rfl) (by kernel_rfl) rfl rfl (Qt.move (by conv => lhs; whnf)) ?_
    refine D.qX (k := 6) rfl (by kernel_rfl) (by kernel_rfl) (by kernel_rfl) rfl rfl (Qt.index Tryd.underlying44 Tryd.cells23 rfl rfl (by omega) (Has.ro hB) (by rw [hcs_length]; omega)) ?_
    refine D.qX (k := 7) rfl (by kernel_rfl) (by kernel_rfl) (by kernel_rfl) rfl rfl (Qt.load rfl (Ld.hashS (Has.ro hB) k Tryd.row23 Tryd.cells23 (by omega) rfl)) ?_
    refine D.qX (k := 8) rfl (by kernel_rfl) (by kernel_rfl) (by kernel_rfl) rfl rfl (Qt.dF (Qt.neH (a := xs.getD k zeroH) (b := xs.getD k zeroH) Tryd.guard23 Tryd.underlying23 Tryd.underlying5 Tryd.cells5 rfl rfl) (fun h => h rfl)) ?_
    refine D.done (Sub.refl _) (by kernel_rfl) ?_
    refine S.if_f rfl ?_
    refine TC.skip ?_
    refine TC.region ?_
    refine S.q rfl rfl (Qt.add (b := 1) rfl rfl (by simp only [kmax]; omega)) ?_
    refine S.q rfl rfl (Qt.move (by conv => lhs; whnf)) ?_
    refine S.nil ?_
    refine ⟨k + 1, ?_, ?_, ⟨?_, (List.forall_mem_cons.2 ⟨rfl, (fun _ h => nomatch h)⟩)⟩, Sub.refl _⟩
    · show _ ≤ _; omega
    · show _ < _; dsimp only; omega
    repeat (first | exact Out.refl _ _ | refine Out.put rfl ?_ | refine Out.puts rfl ?_ | refine Out.scr ?_ | refine Out.scr' rfl ?_)
  · refine S.nil ?_
    refine TC.seq ?_
    refine S.if_f rfl ?_
    refine TC.exit ?_
    refine TC.seq ?_
    refine TC.region ?_
    refine S.q rfl rfl (Qt.assign (by conv => lhs; whnf)) ?_
    refine S.nil ?_
    refine TC.ret ?_
    refine finQ.ret (RVs.tmp (by conv => lhs; whnf) RVs.nil) (Sub.nil _) ?_
    exact ⟨rfl, rfl⟩
theorem hashes_R (A : Option Addr) (c : Nat) (B : Option Addr) (d : Nat) (xs : List H32) (hx : xs.length ≤ 4096) (w0 : World) (hA : Ro w0 [] (SlA A (hcs xs))) (hB : Ro w0 [] (SlA B (hcs xs))) : Calls Tryd.prog 37 #[.slice A xs.length c, .slice B xs.length d] w0 (Ret w0 (.bool true)) := Calls.ret (hashes_walk A c B d xs hx w0 hA hB)

set_option maxHeartbeats 400000 in
theorem drop_walk (E : Nat → H32) (tb mb height : Nat) (ms : Tm) (i : Nat) (hh : height ≤ 32) (hi : i < 2 ^ height) (w0 : World) (hL : Sat w0 [Blk tb 150 (treeCs E height mb), MapA mb encAt hv (ms)]) (hT : Tabs 2 0 w0 (fps [Blk tb 150 (treeCs E height mb), MapA mb encAt hv (ms)])) :
    Calls Tryd.prog 78 #[.pointer (some ⟨tb, 0, none⟩), .int .u64 (i : Int)] w0 (Post w0 (fps [Blk tb 150 (treeCs E height mb), MapA mb encAt hv (ms)]) fun v L => v = .nilIface ∧ L = [Blk tb 150 (treeCs E height mb), MapA mb encAt hv (setK E ms i (E 0) height)]) := by
  refine Calls.of (L := [Blk tb 150 (treeCs E height mb), MapA mb encAt hv (ms)]) (n := 16) (rs := [.tmp 4]) Tryd.func78 rfl rfl rfl (Nat.le_of_ble_eq_true rfl) (hL) ?_
  refine TC.seq ?_
  refine TC.region ?_
  refine S.q rfl rfl (Qt.assign (by conv => lhs; whnf)) ?_
  refine S.nil ?_
  refine TC.seq ?_
  refine TC.seq ?_
  refine TC.region ?_
  refine S.q rfl rfl (Qt.move (by conv => lhs; whnf)) ?_
  refine S.q rfl rfl (Qt.eqp_some Tryd.underlying35 rfl) ?_
  refine S.nil ?_
  refine S.if_f rfl ?_
  refine TC.skip ?_
  refine TC.seq ?_
  refine TC.region ?_
  refine S.q rfl rfl (Qt.move (by conv => lhs; whnf)) ?_
  refine S.q rfl rfl (Qt.move (by conv => lhs; whnf)) ?_
  refine S.q rfl rfl (Qt.move (by conv => lhs; whnf)) ?_
  refine S.q rfl rfl (Qt.nilCheck rfl) ?_
  refine S.q rfl rfl (Qt.field Tryd.underlying150 rfl Tryd.cells142 rfl) ?_
  refine S.q rfl rfl (Qt.indexB (i := 0) Tryd.underlying142 Tryd.cells23 rfl rfl (by omega)) ?_
  refine S.q rfl rfl (Qt.load rfl (Ld.treeE (Has.at 0 rfl) 0 Tryd.row23 Tryd.cells23 (by omega) rfl)) ?_
  refine S.opS rfl rfl (OpV.con (Pre := [Blk tb 150 (treeCs E height mb), MapA mb encAt hv (ms)]) (R := _) Tryd.ent27 rfl (List.Perm.refl _) (fun w hw => set_walk E tb mb height ms i (E 0) hh hi w hw.sat.left (hT.of_go hw (fun b hb => .inl hb))) ?_)
  rintro v L' ⟨rfl, rfl⟩
  refine S.q rfl rfl (Qt.assign (by conv => lhs; whnf)) ?_
  refine S.nil ?_
  refine TC.ret ?_
  refine finQ.ret (RVs.tmp (by conv => lhs; whnf) RVs.nil) (Sub.refl _) ?_
  exact ⟨rfl, rfl⟩
set_option maxHeartbeats 400000 in
theorem drop_walkF (E : Nat → H32) (tb mb height : Nat) (i : Nat) (hh : height ≤ 32) (hp : i < 18446744073709551616) (hi : ¬ i < 2 ^ height) (w0 : World) (hB : Ro w0 [] (Blk tb 150 (treeCs E height mb))) :
    Calls Tryd.prog 78 #[.pointer (some ⟨tb, 0, none⟩), .int .u64 (i : Int)] w0 (Post w0 [] fun v L => v = .iface 58 (.int .i64 1) ∧ L = []) := by
  refine Calls.of (L := []) (n := 16) (rs := [.tmp 4]) Tryd.func78 rfl rfl rfl (Nat.le_of_ble_eq_true rfl) (Sat.nil _) ?_
  refine TC.seq ?_
  refine TC.region ?_
  refine S.q rfl rfl (Qt.assign (by conv => lhs; whnf)) ?_
  refine S.nil ?_
  refine TC.seq ?_
  refine TC.seq ?_
  refine TC.region ?_
  refine S.q rfl rfl (Qt.move (by conv => lhs; whnf)) ?_
  refine S.q rfl rfl (Qt.eqp_some Tryd.underlying35 rfl) ?_
  refine S.nil ?_
  refine S.if_f rfl ?_
  refine TC.skip ?_
  refine TC.seq ?_
  refine TC.region ?_
  refine S.q rfl rfl (Qt.move (by conv => lhs; whnf)) ?_
  refine S.q rfl rfl (Qt.move (by conv => lhs; whnf)) ?_
  refine S.q rfl rfl (Qt.move (by conv => lhs; whnf)) ?_
  refine S.q rfl rfl (Qt.nilCheck rfl) ?_
  refine S.q rfl rfl (Qt.field Tryd.underlying150 rfl Tryd.cells142 rfl) ?_
  refine S.q rfl rfl (Qt.indexB (i := 0) Tryd.underlying142 Tryd.cells23 rfl rfl (by omega)) ?_
  refine S.q rfl rfl (Qt.load rfl (Ld.treeE (Has.ro hB) 0 Tryd.row23 Tryd.cells23 (by omega) rfl)) ?_
  refine S.opS rfl rfl (OpV.con0 Tryd.ent27 rfl (fun w hw => setF_R E tb mb height i (E 0) hh hp hi w (Rd.ro hB w hw)) ?_)
  refine S.q rfl rfl (Qt.assign (by conv => lhs; whnf)) ?_
  refine S.nil ?_
  refine TC.ret ?_
  refine finQ.ret (RVs.tmp (by conv => lhs; whnf) RVs.nil) (Sub.nil _) ?_
  exact ⟨rfl, rfl⟩
theorem dropF_R (E : Nat → H32) (tb mb height : Nat) (i : Nat) (hh : height ≤ 32) (hp : i < 18446744073709551616) (hi : ¬ i < 2 ^ height) (w0 : World) (hB : Ro w0 [] (Blk tb 150 (treeCs E height mb))) : Calls Tryd.prog 78 #[.pointer (some ⟨tb, 0, none⟩), .int .u64 (i : Int)] w0 (Ret w0 (.iface 58 (.int .i64 1))) := Calls.ret (drop_walkF E tb mb height i hh hp hi w0 hB)

set_option maxHeartbeats 1600000 in
theorem both_walk (E : Nat → H32) (hEm : ∀ w, Tabs 2 0 w [] → Calls Tryd.prog 88 #[] w (Ret w (.agg (hcs (emptL E)).toArray))) (hE : ∀ h, E (h + 1) = joinH (h + 1) (E h) (E h)) (hEr : ∀ w, Tabs 3 1 w [] → Calls Tryd.prog 90 #[] w (Post w [] fun v L => ∃ O d, v = .slice O 33 d ∧ L = [OwnA 23 32 O 33 d (hcs (emptL E))])) (height : Nat) (hh : height ≤ 32) (A : Option Addr) (c : Nat) (xs : List Go.E.Act) (hxs : xs.length ≤ 25) (w0 : World) (hR : Ro w0 [] (SlA A (xs.flatMap actL))) (hT : Tabs 2 0 w0 []) (hT2 : Tabs 3 1 w0 []) :
    Calls Tryd.prog 32 #[.int .i64 (height : Int), .slice A xs.length c] w0 (Post w0 [] fun v L => ∃ tb mb ms ls Al cl O d, v = .tuple #[.pointer (some ⟨tb, 0, none⟩), .agg #[.int .i64 (height : Int), .slice Al ls.length cl, .slice O 33 d], .bool true, .bool true] ∧ L = [Blk tb 150 (treeCs E height mb), MapA mb encAt hv (ms), OwnA 163 33 Al (ls).length cl ((ls).flatMap leafL), OwnA 23 32 O 33 d (hcs (emptL E))] ∧ TreeOk E height (fL E ls) ms ∧ ls.length ≤ 25 ∧ ∀ x ∈ ls, x.1 < 18446744073709551616) := by
  refine Calls.of (L := []) (n := 82) (rs := [.tmp 4, .cell 5 52, .tmp 6, .tmp 7]) Tryd.func32 rfl rfl rfl (Nat.le_of_ble_eq_true rfl) (Sat.nil _) ?_
  refine TC.ownNil 163 33 ?_
  refine TC.seq ?_
  refine TC.region ?_
  refine S.q rfl rfl (Qt.assign (by conv => lhs; whnf)) ?_
  refine S.opS rfl rfl (OpV.alloc Tryd.zero52 (fun b5 => ?_))
  refine S.q rfl rfl (Qt.assign (by conv => lhs; whnf)) ?_
  refine S.q rfl rfl (Qt.assign (by conv => lhs; whnf)) ?_
  refine S.nil ?_
  refine TC.seq ?_
  refine TC.seq ?_
  refine TC.region ?_
  refine S.q rfl rfl (Qt.move (by conv => lhs; whnf)) ?_
  refine S.q rfl rfl (Qt.len_slice Tryd.underlying34 rfl) ?_
  refine S.q rfl rfl (Qt.dF (Qt.gt (b := 25) rfl rfl) (by omega)) ?_
  refine S.nil ?_
  refine S.if_f rfl ?_
  refine TC.skip ?_
  refine TC.seq ?_
  refine TC.region ?_
  refine S.q rfl rfl (Qt.move (by conv => lhs; whnf)) ?_
  refine S.opS rfl rfl (OpV.con (Pre := []) (R := _) Tryd.ent26 rfl (List.Perm.refl _) (fun w hw => new_walk E hEm height hh w (hT.at hw)) ?_)
  rintro v L' ⟨tb, mb, rfl, rfl⟩
  refine S.q rfl rfl (Qt.move (by conv => lhs; whnf)) ?_
  refine S.q rfl rfl (Qt.extract rfl rfl) ?_
  refine S.q rfl rfl (Qt.extract rfl rfl) ?_
  refine S.q rfl rfl (Qt.assign (by conv => lhs; whnf)) ?_
  refine S.q rfl rfl (Qt.assign (by conv => lhs; whnf)) ?_
  refine S.nil ?_
  refine TC.seq ?_
  refine TC.seq ?_
  refine TC.region ?_
  refine S.q rfl rfl (Qt.move (by conv => lhs; whnf)) ?_
  refine S.q rfl rfl (Qt.dF (Qt.lt (b := 0) rfl rfl) (by omega)) ?_
  refine S.q rfl rfl (Qt.move (by conv => lhs; whnf)) ?_
  refine S.qg rfl rfl rfl (Qt.move (by conv => lhs; whnf)) ?_
  refine S.qg rfl rfl rfl (Qt.dF (Qt.gt (b := 32) rfl rfl) (by omega)) ?_
  refine S.q rfl rfl (Qt.pick_f rfl (by conv => lhs; whnf)) ?_
  refine S.nil ?_
  refine S.if_f rfl ?_
  refine TC.skip ?_
  refine TC.seq ?_
  refine TC.region ?_
  refine S.q rfl rfl (Qt.move (by conv => lhs; whnf)) ?_
  refine S.opS rfl rfl (OpV.con (Pre := []) (R := _) Tryd.ent97 rfl (List.Perm.refl _) (fun w hw => rnew_walk E hEr height w (hT2.at hw)) ?_)
  rintro v L' ⟨O, d, rfl, rfl⟩
  refine S.opS rfl rfl (OpV.alloc Tryd.zero52 (fun b10 => ?_))
  refine S.opN rfl (OpV.storeV0 rfl (by conv => lhs; whnf) (by exact Tryd.cells52) (by rfl) (by rfl) ?_)
  refine S.nil ?_
  refine TC.seq ?_
  refine TC.seq ?_
  refine TC.region ?_
  refine S.q rfl rfl (Qt.move (by conv => lhs; whnf)) ?_
  refine S.q rfl rfl (Qt.len_slice Tryd.underlying34 rfl) ?_
  refine S.q rfl rfl (Qt.move (by conv => lhs; whnf)) ?_
  refine S.nil ?_
  refine TC.block ?_
  refine TC.loop (γ := Nat × Tm × Ls × Option Addr × Nat) [42, 43, 44, 12, 13, 45, 46, 47, 48, 49, 50, 51, 14, 52, 53, 54, 55, 56, 57, 58, 59, 60, 61, 9, 62, 63, 64, 65, 66, 67, 68, 69, 70, 71, 4, 6, 7, 72, 73, 74, 75, 76, 77, 78, 79, 41] (fun g => [(41, .int .i64 ((g.1 : Nat) : Int))]) (fun g => [Blk b10 52 [.int .i64 (height : Int), .slice g.2.2.2.1 g.2.2.1.length g.2.2.2.2, .slice O 33 d], OwnA 23 32 O 33 d (hcs (emptL E)), Blk tb 150 (treeCs E height mb), MapA mb encAt hv (g.2.1), Blk b5 52 [.int .i64 0, .slice none 0 0, .slice none 0 0], OwnA 163 33 g.2.2.2.1 (g.2.2.1).length g.2.2.2.2 ((g.2.2.1).flatMap leafL)]) (fun g => g.1 ≤ xs.length ∧ TreeOk E height (fL E g.2.2.1) g.2.1 ∧ g.2.2.1.length ≤ g.1 ∧ ∀ x ∈ g.2.2.1, x.1 < 18446744073709551616) (fun g => xs.length - g.1) ((0, [], [], none, 0))
    ⟨Nat.zero_le _, TreeOk.empty hE height, Nat.le_refl _, fun x hx => by cases hx⟩ ⟨Out.refl _ _, (List.forall_mem_cons.2 ⟨rfl, (fun _ h => nomatch h)⟩)⟩ (Sub.refl _) ?_
  rintro ⟨k, ms, ls, Al, cl⟩ u ⟨hk, ht, hll, hlow⟩
  dsimp only at hk ht hll hlow
  refine TC.seq ?_
  refine TC.region ?_
  refine S.dec rfl rfl (Qt.lt rfl rfl) (fun h42 => ?_) (fun h42 => ?_)
  · refine S.nil ?_
    refine TC.seq ?_
    refine S.if_t rfl ?_
    refine TC.skip ?_
    refine TC.seq ?_
    refine TC.block ?_
    refine TC.seq ?_
    refine TC.region ?_
    refine S.q rfl rfl (Qt.index Tryd.underlying34 Tryd.cells40 rfl rfl (by omega) (Has.ro hR) (by rw [acts_len]; omega)) ?_
    refine S.q rfl rfl (Qt.load rfl (Ld.slr (Has.ro hR) Tryd.row40 (by rw [actL_length]; exact Tryd.cells40) (by rw [actL_length]; decide) (acts_at h42))) ?_
    refine S.opS rfl rfl (OpV.alloc Tryd.zero40 (fun b12 => ?_))
    refine S.opN rfl (OpV.storeV0 (v := .agg (actL (xs.getD k act0)).toArray) rfl rfl (by rw [actL_vl]; exact Tryd.cells40) (actL_one _) (by rw [actL_vl]; rfl) ?_)
    refine S.nil ?_
    refine TC.seq ?_
    refine TC.region ?_
    refine S.q rfl rfl (Qt.assign (by conv => lhs; whnf)) ?_
    refine S.nil ?_
    refine TC.seq ?_
    refine TC.seq ?_
    refine TC.region ?_
    refine S.q rfl rfl (Qt.load rfl (Ld.all (Has.at 1 rfl) Tryd.row52 (Tryd.cells52))) ?_
    refine S.q rfl rfl (Qt.field Tryd.underlying40 rfl Tryd.cells24 rfl) ?_
    refine S.q rfl rfl (Qt.load rfl (Ld.one (Has.at 0 rfl) Tryd.one24 (rfl))) ?_
    by_cases hs : (xs.getD k act0).i < 2 ^ height
    · refine S.opS rfl rfl (OpV.con0 Tryd.ent34 rfl (fun w hw => rhas_T height 0 (xs.getD k act0).i hh (ok0 hs) Al ls.length cl O d w) ?_)
      refine S.q rfl rfl (Qt.not_t rfl) ?_
      refine S.nil ?_
      refine S.if_f rfl ?_
      refine TC.skip ?_
      refine TC.seq ?_
      refine TC.region ?_
      refine S.q rfl rfl (Qt.field Tryd.underlying40 rfl Tryd.cells23 rfl) ?_
      refine S.q rfl rfl (Qt.load rfl (Ld.row (vs := hvl (xs.getD k act0).h) (Has.at 0 rfl) Tryd.row23 (by rw [hvl_length]; exact Tryd.cells23) (actL_hash _))) ?_
      refine S.opS rfl rfl (OpV.alloc Tryd.zero23 (fun b14 => ?_))
      refine S.opN rfl (OpV.storeV0 (v := hv (_)) rfl rfl (hv_size Tryd.cells23) (hv_all _) (hv_len _) ?_)
      refine S.nil ?_
      refine TC.seq ?_
      refine TC.seq ?_
      refine TC.region ?_
      refine S.q rfl rfl (Qt.field Tryd.underlying40 rfl Tryd.cells4 rfl) ?_
      cases hd : (xs.getD k act0).d
      · refine S.q rfl rfl (Qt.as (v' := .bool false) (Qt.load rfl (Ld.one (Has.at 1 rfl) Tryd.one4 (actL_bool _))) (by rw [hd])) ?_
        refine S.nil ?_
        refine S.if_f rfl ?_
        refine TC.region ?_
        refine S.q rfl rfl (Qt.move (by conv => lhs; whnf)) ?_
        refine S.q rfl rfl (Qt.field Tryd.underlying40 rfl Tryd.cells24 rfl) ?_
        refine S.q rfl rfl (Qt.load rfl (Ld.one (Has.at 1 rfl) Tryd.one24 (rfl))) ?_
        refine S.q rfl rfl (Qt.load rfl (Ld.hash1 (x := (xs.getD k act0).h) (Has.at 0 rfl) Tryd.row23 Tryd.cells23)) ?_
        refine S.opS rfl rfl (OpV.con (Pre := [Blk tb 150 (treeCs E height mb), MapA mb encAt hv (ms)]) (R := _) Tryd.ent27 rfl ((List.perm_middle (l₁ := [_, _, _, _])).trans (List.Perm.cons _ (List.perm_middle (l₁ := [_, _, _, _])))) (fun w hw => set_walk E tb mb height ms (xs.getD k act0).i _ hh hs w hw.sat.left (hT.pre hw)) ?_)
        rintro v L' ⟨rfl, rfl⟩
        refine S.q rfl rfl (Qt.assign (by conv => lhs; whnf)) ?_
        refine S.nil ?_
        refine TC.seq ?_
        refine TC.seq ?_
        refine TC.region ?_
        refine S.q rfl rfl (Qt.move (by conv => lhs; whnf)) ?_
        refine S.opS rfl rfl (OpV.con0 Tryd.ent24 rfl (fun w hw => Calls.ret (num_nil_walk w)) ?_)
        refine S.q rfl rfl (Qt.move (by conv => lhs; whnf)) ?_
        refine S.q rfl rfl (Qt.dF (Qt.nei (m := 0) (n := 0) rfl rfl) (by decide)) ?_
        refine S.nil ?_
        refine S.if_f rfl ?_
        refine TC.skip ?_
        refine TC.seq ?_
        refine TC.region ?_
        refine S.q rfl rfl (Qt.move (by conv => lhs; whnf)) ?_
        refine S.q rfl rfl (Qt.dT (Qt.eqi (m := 0) (n := 0) rfl rfl) rfl) ?_
        refine S.nil ?_
        refine S.if_t rfl ?_
        refine TC.region ?_
        refine S.q rfl rfl (Qt.load rfl (Ld.all (Has.at 4 rfl) Tryd.row52 (Tryd.cells52))) ?_
        refine S.q rfl rfl (Qt.field Tryd.underlying40 rfl Tryd.cells24 rfl) ?_
        refine S.q rfl rfl (Qt.load rfl (Ld.one (Has.at 3 rfl) Tryd.one24 (rfl))) ?_
        refine S.q rfl rfl (Qt.load rfl (Ld.hash1 (x := (xs.getD k act0).h) (Has.at 2 rfl) Tryd.row23 Tryd.cells23)) ?_
        refine S.opS rfl rfl (OpV.con (Pre := []) (R := _) Tryd.ent98 rfl (List.Perm.refl _) (fun w hw => rset_walk E height ls Al cl O d (xs.getD k act0).i ((xs.getD k act0).h) (xs.getD k act0).lt w (by omega) hlow (Rd.own (Rd.at 7 rfl) w hw) (Rd.own (Rd.at 5 rfl) w hw)) ?_)
        rintro v L' ⟨ls2, A2, c2, rfl, rfl, hset⟩
        refine S.opN rfl (OpV.storeV5 rfl (by conv => lhs; whnf) (by exact Tryd.cells52) (by rfl) (by rfl) ?_)
        refine S.nil ?_
        refine TC.region ?_
        refine S.q rfl rfl (Qt.add (b := 1) rfl rfl (by simp only [kmax]; omega)) ?_
        refine S.q rfl rfl (Qt.move (by conv => lhs; whnf)) ?_
        refine S.nil ?_
        refine ⟨(k + 1, setK E ms (xs.getD k act0).i ((xs.getD k act0).h) height, ls2, A2, c2), ?_, ?_, ⟨?_, (List.forall_mem_cons.2 ⟨rfl, (fun _ h => nomatch h)⟩)⟩, Sub.trans (Sub.keep _ (Sub.keep _ (Sub.keep _ (Sub.keep _ (Sub.keep _ (Sub.keep _ (Sub.drop _ (Sub.drop _ (Sub.drop _ (Sub.nil [])))))))))) (Sub.trans (Sub.keep _ (Sub.trans (Sub.keep _ (Sub.trans (Sub.keep _ (Sub.trans (Sub.keep _ (Sub.trans (Sub.keep _ (Sub.refl _)) (Sub.of_perm (List.perm_middle (l₁ := [_, _, _]))))) (Sub.of_perm (List.perm_middle (l₁ := [_]))))) (Sub.of_perm (List.perm_middle (l₁ := [_]))))) (Sub.of_perm (List.perm_middle (l₁ := [_, _, _, _, _]))))) (Sub.of_perm (List.perm_middle (l₁ := [_, _, _, _, _]))))⟩
        · exact ⟨by show _ ≤ _; dsimp only; omega, hset.tree ht hs, by have := hset.len; dsimp only; omega, hset.low⟩
        · show _ < _; dsimp only; omega
        repeat (first | exact Out.refl _ _ | refine Out.put rfl ?_ | refine Out.puts rfl ?_ | refine Out.scr ?_ | refine Out.scr' rfl ?_)
      · refine S.q rfl rfl (Qt.as (v' := .bool true) (Qt.load rfl (Ld.one (Has.at 1 rfl) Tryd.one4 (actL_bool _))) (by rw [hd])) ?_
        refine S.nil ?_
        refine S.if_t rfl ?_
        refine TC.seq ?_
        refine TC.region ?_
        refine S.q rfl rfl (Qt.field Tryd.underlying52 rfl Tryd.cells44 rfl) ?_
        refine S.q rfl rfl (Qt.load rfl (Ld.one (Has.at 2 rfl) Tryd.one44 (rfl))) ?_
        refine S.q rfl rfl (Qt.index (i := 0) Tryd.underlying44 Tryd.cells23 rfl rfl (by omega) (Has.own (Has.at 3 rfl)) (by rw [hcs_length, emptL_length]; omega)) ?_
        refine S.q rfl rfl (Qt.as (Qt.load rfl (Ld.hashS (Has.own (Has.at 3 rfl)) 0 Tryd.row23 Tryd.cells23 (by rw [emptL_length]; omega) rfl)) (by rw [emptL_get E (by omega)])) ?_
        refine S.opN rfl (OpV.storeV0 (v := hv (E 0)) rfl rfl (hv_size Tryd.cells23) (hv_all _) (by rw [hv_len, hv_len]) ?_)
        refine S.nil ?_
        refine TC.region ?_
        refine S.q rfl rfl (Qt.move (by conv => lhs; whnf)) ?_
        refine S.q rfl rfl (Qt.field Tryd.underlying40 rfl Tryd.cells24 rfl) ?_
        refine S.q rfl rfl (Qt.load rfl (Ld.one (Has.at 1 rfl) Tryd.one24 (rfl))) ?_
        refine S.opS rfl rfl (OpV.con (Pre := [Blk tb 150 (treeCs E height mb), MapA mb encAt hv (ms)]) (R := _) Tryd.ent78 rfl ((List.perm_middle (l₁ := [_, _, _, _])).trans (List.Perm.cons _ (List.perm_middle (l₁ := [_, _, _, _])))) (fun w hw => drop_walk E tb mb height ms (xs.getD k act0).i hh hs w hw.sat.left (hT.pre hw)) ?_)
        rintro v L' ⟨rfl, rfl⟩
        refine S.q rfl rfl (Qt.assign (by conv => lhs; whnf)) ?_
        refine S.nil ?_
        refine TC.seq ?_
        refine TC.seq ?_
        refine TC.region ?_
        refine S.q rfl rfl (Qt.move (by conv => lhs; whnf)) ?_
        refine S.opS rfl rfl (OpV.con0 Tryd.ent24 rfl (fun w hw => Calls.ret (num_nil_walk w)) ?_)
        refine S.q rfl rfl (Qt.move (by conv => lhs; whnf)) ?_
        refine S.q rfl rfl (Qt.dF (Qt.nei (m := 0) (n := 0) rfl rfl) (by decide)) ?_
        refine S.nil ?_
        refine S.if_f rfl ?_
        refine TC.skip ?_
        refine TC.seq ?_
        refine TC.region ?_
        refine S.q rfl rfl (Qt.move (by conv => lhs; whnf)) ?_
        refine S.q rfl rfl (Qt.dT (Qt.eqi (m := 0) (n := 0) rfl rfl) rfl) ?_
        refine S.nil ?_
        refine S.if_t rfl ?_
        refine TC.region ?_
        refine S.q rfl rfl (Qt.load rfl (Ld.all (Has.at 4 rfl) Tryd.row52 (Tryd.cells52))) ?_
        refine S.q rfl rfl (Qt.field Tryd.underlying40 rfl Tryd.cells24 rfl) ?_
        refine S.q rfl rfl (Qt.load rfl (Ld.one (Has.at 3 rfl) Tryd.one24 (rfl))) ?_
        refine S.q rfl rfl (Qt.load rfl (Ld.hash1 (x := E 0) (Has.at 2 rfl) Tryd.row23 Tryd.cells23)) ?_
        refine S.opS rfl rfl (OpV.con (Pre := []) (R := _) Tryd.ent98 rfl (List.Perm.refl _) (fun w hw => rset_walk E height ls Al cl O d (xs.getD k act0).i (E 0) (xs.getD k act0).lt w (by omega) hlow (Rd.own (Rd.at 7 rfl) w hw) (Rd.own (Rd.at 5 rfl) w hw)) ?_)
        rintro v L' ⟨ls2, A2, c2, rfl, rfl, hset⟩
        refine S.opN rfl (OpV.storeV5 rfl (by conv => lhs; whnf) (by exact Tryd.cells52) (by rfl) (by rfl) ?_)
        refine S.nil ?_
        refine TC.region ?_
        refine S.q rfl rfl (Qt.add (b := 1) rfl rfl (by simp only [kmax]; omega)) ?_
        refine S.q rfl rfl (Qt.move (by conv => lhs; whnf)) ?_
        refine S.nil ?_
        refine ⟨(k + 1, setK E ms (xs.getD k act0).i (E 0) height, ls2, A2, c2), ?_, ?_, ⟨?_, (List.forall_mem_cons.2 ⟨rfl, (fun _ h => nomatch h)⟩)⟩, Sub.trans (Sub.keep _ (Sub.keep _ (Sub.keep _ (Sub.keep _ (Sub.keep _ (Sub.keep _ (Sub.drop _ (Sub.drop _ (Sub.drop _ (Sub.nil [])))))))))) (Sub.trans (Sub.keep _ (Sub.trans (Sub.keep _ (Sub.trans (Sub.keep _ (Sub.trans (Sub.keep _ (Sub.trans (Sub.keep _ (Sub.refl _)) (Sub.of_perm (List.perm_middle (l₁ := [_, _, _]))))) (Sub.of_perm (List.perm_middle (l₁ := [_]))))) (Sub.of_perm (List.perm_middle (l₁ := [_]))))) (Sub.of_perm (List.perm_middle (l₁ := [_, _, _, _, _]))))) (Sub.of_perm (List.perm_middle (l₁ := [_, _, _, _, _]))))⟩
        · exact ⟨by show _ ≤ _; dsimp only; omega, hset.tree ht hs, by have := hset.len; dsimp only; omega, hset.low⟩
        · show _ < _; dsimp only; omega
        repeat (first | exact Out.refl _ _ | refine Out.put rfl ?_ | refine Out.puts rfl ?_ | refine Out.scr ?_ | refine Out.scr' rfl ?_)
    · refine S.opS rfl rfl (OpV.con0 Tryd.ent34 rfl (fun w hw => rhas_F height 0 (xs.getD k act0).i hh (xs.getD k act0).lt (not_ok0 hs) Al ls.length cl O d w) ?_)
      refine S.q rfl rfl (Qt.not_f rfl) ?_
      refine S.nil ?_
      refine S.if_t rfl ?_
      refine TC.region ?_
      refine S.q rfl rfl (Qt.assign (by conv => lhs; whnf)) ?_
      refine S.nil ?_
      refine TC.seq ?_
      refine TC.region ?_
      refine S.q rfl rfl (Qt.field Tryd.underlying40 rfl Tryd.cells23 rfl) ?_
      refine S.q rfl rfl (Qt.load rfl (Ld.row (vs := hvl (xs.getD k act0).h) (Has.at 0 rfl) Tryd.row23 (by rw [hvl_length]; exact Tryd.cells23) (actL_hash _))) ?_
      refine S.opS rfl rfl (OpV.alloc Tryd.zero23 (fun b14 => ?_))
      refine S.opN rfl (OpV.storeV0 (v := hv (_)) rfl rfl (hv_size Tryd.cells23) (hv_all _) (hv_len _) ?_)
      refine S.nil ?_
      refine TC.seq ?_
      refine TC.seq ?_
      refine TC.region ?_
      refine S.q rfl rfl (Qt.field Tryd.underlying40 rfl Tryd.cells4 rfl) ?_
      cases hd : (xs.getD k act0).d
      · refine S.q rfl rfl (Qt.as (v' := .bool false) (Qt.load rfl (Ld.one (Has.at 1 rfl) Tryd.one4 (actL_bool _))) (by rw [hd])) ?_
        refine S.nil ?_
        refine S.if_f rfl ?_
        refine TC.region ?_
        refine S.q rfl rfl (Qt.move (by conv => lhs; whnf)) ?_
        refine S.q rfl rfl (Qt.field Tryd.underlying40 rfl Tryd.cells24 rfl) ?_
        refine S.q rfl rfl (Qt.load rfl (Ld.one (Has.at 1 rfl) Tryd.one24 (rfl))) ?_
        refine S.q rfl rfl (Qt.load rfl (Ld.hash1 (x := (xs.getD k act0).h) (Has.at 0 rfl) Tryd.row23 Tryd.cells23)) ?_
        refine S.opS rfl rfl (OpV.con0 Tryd.ent27 rfl (fun w hw => setF_R E tb mb height (xs.getD k act0).i _ hh (xs.getD k act0).lt hs w (Rd.at 4 rfl w hw)) ?_)
        refine S.q rfl rfl (Qt.assign (by conv => lhs; whnf)) ?_
        refine S.nil ?_
        refine TC.seq ?_
        refine TC.seq ?_
        refine TC.region ?_
        refine S.q rfl rfl (Qt.move (by conv => lhs; whnf)) ?_
        refine S.opS rfl rfl (OpV.con0 Tryd.ent24 rfl (fun w hw => Calls.ret (num_pos_walk 1 (by decide) w)) ?_)
        refine S.q rfl rfl (Qt.move (by conv => lhs; whnf)) ?_
        refine S.q rfl rfl (Qt.dF (Qt.nei (m := 1) (n := 1) rfl rfl) (by decide)) ?_
        refine S.nil ?_
        refine S.if_f rfl ?_
        refine TC.skip ?_
        refine TC.seq ?_
        refine TC.region ?_
        refine S.q rfl rfl (Qt.move (by conv => lhs; whnf)) ?_
        refine S.q rfl rfl (Qt.dF (Qt.eqi (m := 1) (n := 0) rfl rfl) (by decide)) ?_
        refine S.nil ?_
        refine S.if_f rfl ?_
        refine TC.skip ?_
        refine TC.region ?_
        refine S.q rfl rfl (Qt.add (b := 1) rfl rfl (by simp only [kmax]; omega)) ?_
        refine S.q rfl rfl (Qt.move (by conv => lhs; whnf)) ?_
        refine S.nil ?_
        refine ⟨(k + 1, ms, ls, Al, cl), ?_, ?_, ⟨?_, (List.forall_mem_cons.2 ⟨rfl, (fun _ h => nomatch h)⟩)⟩, Sub.trans (Sub.keep _ (Sub.keep _ (Sub.keep _ (Sub.keep _ (Sub.keep _ (Sub.keep _ (Sub.drop _ (Sub.drop _ (Sub.nil []))))))))) (Sub.trans (Sub.keep _ (Sub.trans (Sub.keep _ (Sub.trans (Sub.keep _ (Sub.trans (Sub.keep _ (Sub.trans (Sub.keep _ (Sub.trans (Sub.keep _ (Sub.refl _)) (Sub.of_perm (List.perm_middle (l₁ := [_, _]))))) (Sub.of_perm (List.perm_middle (l₁ := [_, _]))))) (Sub.of_perm (List.perm_middle (l₁ := [_, _]))))) (Sub.of_perm (List.perm_middle (l₁ := [_, _]))))) (Sub.of_perm (List.perm_middle (l₁ := [_, _]))))) (Sub.of_perm (List.perm_middle (l₁ := [_, _]))))⟩
        · exact ⟨by show _ ≤ _; dsimp only; omega, ht, by dsimp only; omega, hlow⟩
        · show _ < _; dsimp only; omega
        repeat (first | exact Out.refl _ _ | refine Out.put rfl ?_ | refine Out.puts rfl ?_ | refine Out.scr ?_ | refine Out.scr' rfl ?_)
      · refine S.q rfl rfl (Qt.as (v' := .bool true) (Qt.load rfl (Ld.one (Has.at 1 rfl) Tryd.one4 (actL_bool _))) (by rw [hd])) ?_
        refine S.nil ?_
        refine S.if_t rfl ?_
        refine TC.seq ?_
        refine TC.region ?_
        refine S.q rfl rfl (Qt.field Tryd.underlying52 rfl Tryd.cells44 rfl) ?_
        refine S.q rfl rfl (Qt.load rfl (Ld.one (Has.at 2 rfl) Tryd.one44 (rfl))) ?_
        refine S.q rfl rfl (Qt.index (i := 0) Tryd.underlying44 Tryd.cells23 rfl rfl (by omega) (Has.own (Has.at 3 rfl)) (by rw [hcs_length, emptL_length]; omega)) ?_
        refine S.q rfl rfl (Qt.as (Qt.load rfl (Ld.hashS (Has.own (Has.at 3 rfl)) 0 Tryd.row23 Tryd.cells23 (by rw [emptL_length]; omega) rfl)) (by rw [emptL_get E (by omega)])) ?_
        refine S.opN rfl (OpV.storeV0 (v := hv (E 0)) rfl rfl (hv_size Tryd.cells23) (hv_all _) (by rw [hv_len, hv_len]) ?_)
        refine S.nil ?_
        refine TC.region ?_
        refine S.q rfl rfl (Qt.move (by conv => lhs; whnf)) ?_
        refine S.q rfl rfl (Qt.field Tryd.underlying40 rfl Tryd.cells24 rfl) ?_
        refine S.q rfl rfl (Qt.load rfl (Ld.one (Has.at 1 rfl) Tryd.one24 (rfl))) ?_
        refine S.opS rfl rfl (OpV.con0 Tryd.ent78 rfl (fun w hw => dropF_R E tb mb height (xs.getD k act0).i hh (xs.getD k act0).lt hs w (Rd.at 4 rfl w hw)) ?_)
        refine S.q rfl rfl (Qt.assign (by conv => lhs; whnf)) ?_
        refine S.nil ?_
        refine TC.seq ?_
        refine TC.seq ?_
        refine TC.region ?_
        refine S.q rfl rfl (Qt.move (by conv => lhs; whnf)) ?_
        refine S.opS rfl rfl (OpV.con0 Tryd.ent24 rfl (fun w hw => Calls.ret (num_pos_walk 1 (by decide) w)) ?_)
        refine S.q rfl rfl (Qt.move (by conv => lhs; whnf)) ?_
        refine S.q rfl rfl (Qt.dF (Qt.nei (m := 1) (n := 1) rfl rfl) (by decide)) ?_
        refine S.nil ?_
        refine S.if_f rfl ?_
        refine TC.skip ?_
        refine TC.seq ?_
        refine TC.region ?_
        refine S.q rfl rfl (Qt.move (by conv => lhs; whnf)) ?_
        refine S.q rfl rfl (Qt.dF (Qt.eqi (m := 1) (n := 0) rfl rfl) (by decide)) ?_
        refine S.nil ?_
        refine S.if_f rfl ?_
        refine TC.skip ?_
        refine TC.region ?_
        refine S.q rfl rfl (Qt.add (b := 1) rfl rfl (by simp only [kmax]; omega)) ?_
        refine S.q rfl rfl (Qt.move (by conv => lhs; whnf)) ?_
        refine S.nil ?_
        refine ⟨(k + 1, ms, ls, Al, cl), ?_, ?_, ⟨?_, (List.forall_mem_cons.2 ⟨rfl, (fun _ h => nomatch h)⟩)⟩, Sub.trans (Sub.keep _ (Sub.keep _ (Sub.keep _ (Sub.keep _ (Sub.keep _ (Sub.keep _ (Sub.drop _ (Sub.drop _ (Sub.nil []))))))))) (Sub.trans (Sub.keep _ (Sub.trans (Sub.keep _ (Sub.trans (Sub.keep _ (Sub.trans (Sub.keep _ (Sub.trans (Sub.keep _ (Sub.trans (Sub.keep _ (Sub.refl _)) (Sub.of_perm (List.perm_middle (l₁ := [_, _]))))) (Sub.of_perm (List.perm_middle (l₁ := [_, _]))))) (Sub.of_perm (List.perm_middle (l₁ := [_, _]))))) (Sub.of_perm (List.perm_middle (l₁ := [_, _]))))) (Sub.of_perm (List.perm_middle (l₁ := [_, _]))))) (Sub.of_perm (List.perm_middle (l₁ := [_, _]))))⟩
        · exact ⟨by show _ ≤ _; dsimp only; omega, ht, by dsimp only; omega, hlow⟩
        · show _ < _; dsimp only; omega
        repeat (first | exact Out.refl _ _ | refine Out.put rfl ?_ | refine Out.puts rfl ?_ | refine Out.scr ?_ | refine Out.scr' rfl ?_)
  · refine S.nil ?_
    refine TC.seq ?_
    refine S.if_f rfl ?_
    refine TC.exit ?_
    refine TC.seq ?_
    refine S.draw ([3], []) Tryd.mixed (Sub.nil _) ?_
    refine D.qX (k := 0) rfl (by kernel_rfl) (by kernel_rfl) (by kernel_rfl) rfl rfl (Qt.move (by conv => lhs; whnf)) ?_
    refine D.qX (k := 1) rfl (by kernel_rfl) (by kernel_rfl) (by kernel_rfl) rfl rfl (Qt.load rfl (Ld.all (Has.at 0 rfl) Tryd.row52 (Tryd.cells52))) ?_
    refine D.qX (k := 2) rfl (by kernel_rfl) (by kernel_rfl) (by kernel_rfl) rfl rfl (Qt.assign (by conv => lhs; whnf)) ?_
    refine D.opN (k := 3) (Sub.nil _) rfl (by kernel_rfl) (by kernel_rfl) rfl (OpV.storeV4 rfl (by conv => lhs; whnf) (by exact Tryd.cells52) (by rfl) (by rfl) ⟨Sub.nil _, ?_⟩)
    refine D.qX (k := 4) rfl (by kernel_rfl) (by kernel_rfl) (by kernel_rfl) rfl rfl (Qt.assign (by conv => lhs; whnf)) ?_
    refine D.qX (k := 5) rfl (by kernel_rfl) (by kernel_rfl) (by kernel_rfl) rfl rfl (Qt.assign (by conv => lhs; whnf)) ?_
    refine D.done (Sub.nil _) (by kernel_rfl) ?_
    refine TC.ret ?_
    refine finQ.ret (RVs.tmp (by conv => lhs; whnf) (RVs.cell rfl (Ld.all (Has.at 4 rfl) Tryd.row52 (Tryd.cells52)) (RVs.tmp (by conv => lhs; whnf) (RVs.tmp (by conv => lhs; whnf) RVs.nil)))) (Sub.trans (Sub.keep _ (Sub.keep _ (Sub.keep _ (Sub.keep _ (Sub.drop _ (Sub.drop _ (Sub.nil []))))))) (Sub.trans (Sub.keep _ (Sub.trans (Sub.keep _ (Sub.trans (Sub.keep _ (Sub.trans (Sub.keep _ (Sub.refl _)) (Sub.of_perm (List.perm_middle (l₁ := [_]))))) (Sub.of_perm (List.perm_middle (l₁ := [_, _, _]))))) (Sub.of_perm (List.perm_middle (l₁ := [_, _]))))) (Sub.of_perm (List.perm_middle (l₁ := [_, _]))))) ?_
    exact ⟨tb, mb, ms, ls, Al, cl, O, d, rfl, rfl, ht, by omega, hlow⟩
set_option maxHeartbeats 400000 in
theorem both_walkL (E : Nat → H32) (z : Int) (A : Option Addr) (c : Nat) (xs : List Go.E.Act) (hxs : 25 < xs.length) (w0 : World) :
    Calls Tryd.prog 32 #[.int .i64 z, .slice A xs.length c] w0 (Post w0 [] fun v L => v = .tuple #[.pointer none, .agg #[.int .i64 0, .slice none 0 0, .slice none 0 0], .bool true, .bool false] ∧ L = []) := by
  refine Calls.of (L := []) (n := 82) (rs := [.tmp 4, .cell 5 52, .tmp 6, .tmp 7]) Tryd.func32 rfl rfl rfl (Nat.le_of_ble_eq_true rfl) (Sat.nil _) ?_
  refine TC.seq ?_
  refine TC.region ?_
  refine S.q rfl rfl (Qt.assign (by conv => lhs; whnf)) ?_
  refine S.opS rfl rfl (OpV.alloc Tryd.zero52 (fun b5 => ?_))
  refine S.q rfl rfl (Qt.assign (by conv => lhs; whnf)) ?_
  refine S.q rfl rfl (Qt.assign (by conv => lhs; whnf)) ?_
  refine S.nil ?_
  refine TC.seq ?_
  refine TC.seq ?_
  refine TC.region ?_
  refine S.q rfl rfl (Qt.move (by conv => lhs; whnf)) ?_
  refine S.q rfl rfl (Qt.len_slice Tryd.underlying34 rfl) ?_
  refine S.q rfl rfl (Qt.dT (Qt.gt (b := 25) rfl rfl) (by omega)) ?_
  refine S.nil ?_
  refine S.if_t rfl ?_
  refine TC.seq ?_
  refine TC.region ?_
  refine S.q rfl rfl (Qt.build (v := .agg #[.int .i64 0, .slice none 0 0, .slice none 0 0]) rfl (fun _ => by kernel_rfl)) ?_
  refine S.q rfl rfl (Qt.assign (by conv => lhs; whnf)) ?_
  refine S.opN rfl (OpV.storeV0 rfl (by conv => lhs; whnf) (by exact Tryd.cells52) (by rfl) (by rfl) ?_)
  refine S.q rfl rfl (Qt.assign (by conv => lhs; whnf)) ?_
  refine S.q rfl rfl (Qt.assign (by conv => lhs; whnf)) ?_
  refine S.nil ?_
  refine TC.ret ?_
  refine finQ.ret (RVs.tmp (by conv => lhs; whnf) (RVs.cell rfl (Ld.all (Has.at 0 rfl) Tryd.row52 (Tryd.cells52)) (RVs.tmp (by conv => lhs; whnf) (RVs.tmp (by conv => lhs; whnf) RVs.nil)))) (Sub.nil _) ?_
  exact ⟨rfl, rfl⟩
theorem bothL_R (E : Nat → H32) (z : Int) (A : Option Addr) (c : Nat) (xs : List Go.E.Act) (hxs : 25 < xs.length) (w0 : World) : Calls Tryd.prog 32 #[.int .i64 z, .slice A xs.length c] w0 (Ret w0 (.tuple #[.pointer none, .agg #[.int .i64 0, .slice none 0 0, .slice none 0 0], .bool true, .bool false])) := Calls.ret (both_walkL E z A c xs hxs w0)

set_option maxHeartbeats 400000 in
theorem both_walkZ (E : Nat → H32) (z : Int) (A : Option Addr) (c : Nat) (xs : List Go.E.Act) (hxs : xs.length ≤ 25) (hz : z < 0 ∨ 32 < z) (w0 : World) :
    Calls Tryd.prog 32 #[.int .i64 z, .slice A xs.length c] w0 (Post w0 [] fun v L => v = .tuple #[.pointer none, .agg #[.int .i64 0, .slice none 0 0, .slice none 0 0], .bool true, .bool false] ∧ L = []) := by
  refine Calls.of (L := []) (n := 82) (rs := [.tmp 4, .cell 5 52, .tmp 6, .tmp 7]) Tryd.func32 rfl rfl rfl (Nat.le_of_ble_eq_true rfl) (Sat.nil _) ?_
  refine TC.seq ?_
  refine TC.region ?_
  refine S.q rfl rfl (Qt.assign (by conv => lhs; whnf)) ?_
  refine S.opS rfl rfl (OpV.alloc Tryd.zero52 (fun b5 => ?_))
  refine S.q rfl rfl (Qt.assign (by conv => lhs; whnf)) ?_
  refine S.q rfl rfl (Qt.assign (by conv => lhs; whnf)) ?_
  refine S.nil ?_
  refine TC.seq ?_
  refine TC.seq ?_
  refine TC.region ?_
  refine S.q rfl rfl (Qt.move (by conv => lhs; whnf)) ?_
  refine S.q rfl rfl (Qt.len_slice Tryd.underlying34 rfl) ?_
  refine S.q rfl rfl (Qt.dF (Qt.gt (b := 25) rfl rfl) (by omega)) ?_
  refine S.nil ?_
  refine S.if_f rfl ?_
  refine TC.skip ?_
  refine TC.seq ?_
  refine TC.region ?_
  refine S.q rfl rfl (Qt.move (by conv => lhs; whnf)) ?_
  refine S.opS rfl rfl (OpV.con0 Tryd.ent26 rfl (fun w hw => newF_R z hz w) ?_)
  refine S.q rfl rfl (Qt.move (by conv => lhs; whnf)) ?_
  refine S.q rfl rfl (Qt.extract rfl rfl) ?_
  refine S.q rfl rfl (Qt.extract rfl rfl) ?_
  refine S.q rfl rfl (Qt.assign (by conv => lhs; whnf)) ?_
  refine S.q rfl rfl (Qt.assign (by conv => lhs; whnf)) ?_
  refine S.nil ?_
  refine TC.seq ?_
  refine TC.seq ?_
  refine TC.region ?_
  refine S.q rfl rfl (Qt.move (by conv => lhs; whnf)) ?_
  refine S.dec rfl rfl (Qt.lti rfl rfl) (fun h25 => ?_) (fun h25 => ?_)
  · refine S.q rfl rfl (Qt.move (by conv => lhs; whnf)) ?_
    refine S.pass rfl rfl ?_
    refine S.pass rfl rfl ?_
    refine S.q rfl rfl (Qt.pick_t rfl (by conv => lhs; whnf)) ?_
    refine S.nil ?_
    refine S.if_t rfl ?_
    refine TC.seq ?_
    refine TC.region ?_
    refine S.q rfl rfl (Qt.build (v := .agg #[.int .i64 0, .slice none 0 0, .slice none 0 0]) rfl (fun _ => by kernel_rfl)) ?_
    refine S.q rfl rfl (Qt.move (by conv => lhs; whnf)) ?_
    refine S.opS rfl rfl (OpV.con0 Tryd.ent35 rfl (fun w hw => is1 w) ?_)
    refine S.q rfl rfl (Qt.move (by conv => lhs; whnf)) ?_
    refine S.qg rfl rfl rfl (Qt.move (by conv => lhs; whnf)) ?_
    refine S.qg rfl rfl rfl (Qt.eqp_none Tryd.underlying35 rfl) ?_
    refine S.q rfl rfl (Qt.pick_t rfl (by conv => lhs; whnf)) ?_
    refine S.q rfl rfl (Qt.assign (by conv => lhs; whnf)) ?_
    refine S.opN rfl (OpV.storeV0 rfl (by conv => lhs; whnf) (by exact Tryd.cells52) (by rfl) (by rfl) ?_)
    refine S.q rfl rfl (Qt.assign (by conv => lhs; whnf)) ?_
    refine S.q rfl rfl (Qt.assign (by conv => lhs; whnf)) ?_
    refine S.nil ?_
    refine TC.ret ?_
    refine finQ.ret (RVs.tmp (by conv => lhs; whnf) (RVs.cell rfl (Ld.all (Has.at 0 rfl) Tryd.row52 (Tryd.cells52)) (RVs.tmp (by conv => lhs; whnf) (RVs.tmp (by conv => lhs; whnf) RVs.nil)))) (Sub.nil _) ?_
    exact ⟨rfl, rfl⟩
  · refine S.q rfl rfl (Qt.move (by conv => lhs; whnf)) ?_
    refine S.qg rfl rfl rfl (Qt.move (by conv => lhs; whnf)) ?_
    refine S.qg rfl rfl rfl (Qt.dT (Qt.gti rfl rfl) (by omega)) ?_
    refine S.q rfl rfl (Qt.pick_f rfl (by conv => lhs; whnf)) ?_
    refine S.nil ?_
    refine S.if_t rfl ?_
    refine TC.seq ?_
    refine TC.region ?_
    refine S.q rfl rfl (Qt.build (v := .agg #[.int .i64 0, .slice none 0 0, .slice none 0 0]) rfl (fun _ => by kernel_rfl)) ?_
    refine S.q rfl rfl (Qt.move (by conv => lhs; whnf)) ?_
    refine S.opS rfl rfl (OpV.con0 Tryd.ent35 rfl (fun w hw => is1 w) ?_)
    refine S.q rfl rfl (Qt.move (by conv => lhs; whnf)) ?_
    refine S.qg rfl rfl rfl (Qt.move (by conv => lhs; whnf)) ?_
    refine S.qg rfl rfl rfl (Qt.eqp_none Tryd.underlying35 rfl) ?_
    refine S.q rfl rfl (Qt.pick_t rfl (by conv => lhs; whnf)) ?_
    refine S.q rfl rfl (Qt.assign (by conv => lhs; whnf)) ?_
    refine S.opN rfl (OpV.storeV0 rfl (by conv => lhs; whnf) (by exact Tryd.cells52) (by rfl) (by rfl) ?_)
    refine S.q rfl rfl (Qt.assign (by conv => lhs; whnf)) ?_
    refine S.q rfl rfl (Qt.assign (by conv => lhs; whnf)) ?_
    refine S.nil ?_
    refine TC.ret ?_
    refine finQ.ret (RVs.tmp (by conv => lhs; whnf) (RVs.cell rfl (Ld.all (Has.at 0 rfl) Tryd.row52 (Tryd.cells52)) (RVs.tmp (by conv => lhs; whnf) (RVs.tmp (by conv => lhs; whnf) RVs.nil)))) (Sub.nil _) ?_
    exact ⟨rfl, rfl⟩
theorem bothZ_R (E : Nat → H32) (z : Int) (A : Option Addr) (c : Nat) (xs : List Go.E.Act) (hxs : xs.length ≤ 25) (hz : z < 0 ∨ 32 < z) (w0 : World) : Calls Tryd.prog 32 #[.int .i64 z, .slice A xs.length c] w0 (Ret w0 (.tuple #[.pointer none, .agg #[.int .i64 0, .slice none 0 0, .slice none 0 0], .bool true, .bool false])) := Calls.ret (both_walkZ E z A c xs hxs hz w0)

end Go.Proofs.YtlneklemjfefpaaDoor
