/-
  Walks: a tree's copy; whether a tree is the document's. Printed by a program of ours.
-/
import Derived.Test.YtlneklemjfefpaaDoorWL
import Derived.Test.YtlneklemjfefpaaDoorTH
namespace Go.Proofs.YtlneklemjfefpaaDoor
open Go.E
set_option linter.unusedVariables false
set_option maxRecDepth 4000
theorem Tryd.ent118 : Enters Tryd.prog 118 := ⟨_, Tryd.func118, by kernel_rfl, rfl⟩
theorem fin_pre {n j : Nat} {pre : List (Fin n)} {x : Fin n} (h : pre ++ [x] = (List.finRange n).take j) : x.val = pre.length ∧ pre.length < n := by
  have h1 := congrArg List.length h
  rw [len_snoc, List.length_take, List.length_finRange] at h1
  have h2 : (pre ++ [x])[pre.length]? = some x := by simp
  have h3 : pre.length < n := by omega
  rw [h] at h2
  simp [show pre.length < j by omega, h3] at h2
  exact ⟨by rw [← h2], h3⟩
set_option maxHeartbeats 1600000 in
theorem is77_walk (E : Nat → H32) (hE : ∀ h, E (h + 1) = joinH (h + 1) (E h) (E h)) (tb mb height : Nat) (ms : Tm) (hh : height ≤ 32) (ls : Ls) (Al : Option Addr) (cl : Nat) (O : Option Addr) (d : Nat) (ht : TreeOk E height (fL E ls) ms) (ho : LsOk E height ls) (hlen : ls.length ≤ 4096) (w0 : World) (hB : Ro w0 [] (Blk tb 150 (treeCs E height mb))) (hM : Ro w0 [] (MapA mb encAt hv (ms))) (hL : Ro w0 [] (SlA Al (ls.flatMap leafL))) (hO : Ro w0 [] (SlA O (hcs (emptL E)))) (hT2 : Tabs 3 1 w0 []) :
    Calls Tryd.prog 77 #[.pointer (some ⟨tb, 0, none⟩), .agg #[.int .i64 (height : Int), .slice Al ls.length cl, .slice O 33 d]] w0 (Post w0 [] fun v L => v = .bool true ∧ L = []) := by
  refine Calls.of (L := []) (n := 68) (rs := [.cell 4 4]) Tryd.func77 rfl rfl rfl (Nat.le_of_ble_eq_true rfl) (Sat.nil _) ?_
  have hlow : ∀ x ∈ ls, x.1 < 18446744073709551616 := fun x hx => Nat.lt_of_lt_of_le (ho.low x hx) (Nat.le_trans (Nat.pow_le_pow_right (by decide) hh) (by decide : 2 ^ 32 ≤ 18446744073709551616))
  have hll : (lvT ms).length = ls.length := by rw [ht.leaves ho, List.length_map]
  have hn : (lv0 (keysOf ms)).length < 4294967296 := by rw [← srt_len]; show (lvT ms).length < _; omega
  have hroot : getT E ms (height, 0) = nodeH (fL E ls) height 0 := ht.get _ (okRoot height)
  refine TC.seq ?_
  refine TC.region ?_
  refine S.opS rfl rfl (OpV.box (v := .agg #[.int .i64 (height : Int), .slice Al ls.length cl, .slice O 33 d]) rfl (fun b3 => ?_))
  refine S.opS rfl rfl (OpV.alloc Tryd.zero4 (fun b4 => ?_))
  refine S.nil ?_
  refine TC.seq ?_
  refine TC.seq ?_
  refine S.draw ([], []) Tryd.mixed (Sub.nil _) ?_
  refine D.qX (k := 0) rfl (by kernel_rfl) (by kernel_rfl) (by kernel_rfl) rfl rfl (Qt.move (by conv => lhs; whnf)) ?_
  refine D.qX (k := 1) rfl (by kernel_rfl) (by kernel_rfl) (by kernel_rfl) rfl rfl (Qt.eqp_some Tryd.underlying35 rfl) ?_
  refine D.qX (k := 2) rfl (by kernel_rfl) (by kernel_rfl) (by kernel_rfl) rfl rfl (Qt.move (by conv => lhs; whnf)) ?_
  refine D.qgX (k := 3) rfl (by kernel_rfl) (by kernel_rfl) (by kernel_rfl) rfl rfl rfl (Qt.move (by conv => lhs; whnf)) ?_
  refine D.cgX (k := 4) rfl (by kernel_rfl) (by kernel_rfl) (by kernel_rfl) rfl rfl rfl (CalU.con0 Tryd.ent85 rfl (fun w hw => height85_R E tb mb height w (Rd.ro hB w hw))) ?_
  refine D.qgX (k := 5) rfl (by kernel_rfl) (by kernel_rfl) (by kernel_rfl) rfl rfl rfl (Qt.field Tryd.underlying52 rfl Tryd.cells3 rfl) ?_
  refine D.qgX (k := 6) rfl (by kernel_rfl) (by kernel_rfl) (by kernel_rfl) rfl rfl rfl (Qt.load rfl (Ld.one (v := .int .i64 (height : Int)) (Has.at 1 rfl) Tryd.one3 rfl)) ?_
  refine D.qgX (k := 7) rfl (by kernel_rfl) (by kernel_rfl) (by kernel_rfl) rfl rfl rfl (Qt.dF (Qt.ne rfl rfl) (fun h => h rfl)) ?_
  refine D.qX (k := 8) rfl (by kernel_rfl) (by kernel_rfl) (by kernel_rfl) rfl rfl (Qt.pick_f rfl (by conv => lhs; whnf)) ?_
  refine D.qX (k := 9) rfl (by kernel_rfl) (by kernel_rfl) (by kernel_rfl) rfl rfl (Qt.move (by conv => lhs; whnf)) ?_
  refine D.qgX (k := 10) rfl (by kernel_rfl) (by kernel_rfl) (by kernel_rfl) rfl rfl rfl (Qt.move (by conv => lhs; whnf)) ?_
  refine D.cgX (k := 11) rfl (by kernel_rfl) (by kernel_rfl) (by kernel_rfl) rfl rfl rfl (CalU.con0 Tryd.ent79 rfl (fun w hw => len79_R E tb mb height ms hn w (Rd.ro hB w hw) (Rd.ro hM w hw))) ?_
  refine D.qgX (k := 12) rfl (by kernel_rfl) (by kernel_rfl) (by kernel_rfl) rfl rfl rfl (Qt.field Tryd.underlying52 rfl Tryd.cells50 rfl) ?_
  refine D.qgX (k := 13) rfl (by kernel_rfl) (by kernel_rfl) (by kernel_rfl) rfl rfl rfl (Qt.load rfl (Ld.one (v := .slice Al ls.length cl) (Has.at 1 rfl) Tryd.one50 rfl)) ?_
  refine D.qgX (k := 14) rfl (by kernel_rfl) (by kernel_rfl) (by kernel_rfl) rfl rfl rfl (Qt.len_slice Tryd.underlying50 rfl) ?_
  refine D.qgX (k := 15) rfl (by kernel_rfl) (by kernel_rfl) (by kernel_rfl) rfl rfl rfl (Qt.dF (Qt.ne rfl rfl) (fun h => h hll)) ?_
  refine D.qX (k := 16) rfl (by kernel_rfl) (by kernel_rfl) (by kernel_rfl) rfl rfl (Qt.pick_f rfl (by conv => lhs; whnf)) ?_
  refine D.qX (k := 17) rfl (by kernel_rfl) (by kernel_rfl) (by kernel_rfl) rfl rfl (Qt.move (by conv => lhs; whnf)) ?_
  refine D.qgX (k := 18) rfl (by kernel_rfl) (by kernel_rfl) (by kernel_rfl) rfl rfl rfl (Qt.move (by conv => lhs; whnf)) ?_
  refine D.cgX (k := 19) rfl (by kernel_rfl) (by kernel_rfl) (by kernel_rfl) rfl rfl rfl (CalU.con0 Tryd.ent28 rfl (fun w hw => root_R E tb mb height ms hh w (Rd.ro hB w hw) (Rd.ro hM w hw))) ?_
  refine D.qgX (k := 20) rfl (by kernel_rfl) (by kernel_rfl) (by kernel_rfl) rfl rfl rfl (Qt.load rfl (Ld.all (vs := vl (.agg #[.int .i64 (height : Int), .slice Al ls.length cl, .slice O 33 d])) (Has.at 1 rfl) Tryd.row52 Tryd.cells52)) ?_
  refine D.cgX (k := 21) rfl (by kernel_rfl) (by kernel_rfl) (by kernel_rfl) rfl rfl rfl (CalU.con0 Tryd.ent118 rfl (fun w hw => rroot_R E hE height hh ls Al cl O d w hlen hlow (Rd.ro hL w hw) (Rd.ro hO w hw) (hT2.at hw))) ?_
  refine D.qgX (k := 22) rfl (by kernel_rfl) (by kernel_rfl) (by kernel_rfl) rfl rfl rfl (Qt.dF (Qt.neH (a := getT E ms (height, 0)) (b := nodeH (fL E ls) height 0) Tryd.guard23 Tryd.underlying23 Tryd.underlying5 Tryd.cells5 rfl rfl) (fun h => h hroot)) ?_
  refine D.qX (k := 23) rfl (by kernel_rfl) (by kernel_rfl) (by kernel_rfl) rfl rfl (Qt.pick_f rfl (by conv => lhs; whnf)) ?_
  refine D.done (Sub.nil _) (by kernel_rfl) ?_
  refine S.if_f rfl ?_
  refine TC.skip ?_
  refine TC.seq ?_
  refine TC.region ?_
  refine S.opS rfl rfl (OpV.alloc Tryd.zero3 (fun b5 => ?_))
  refine S.opN rfl (OpV.storeV0 rfl (by conv => lhs; whnf) (by exact Tryd.cells3) (by rfl) (by rfl) ?_)
  refine S.nil ?_
  refine TC.seq ?_
  refine TC.seq ?_
  refine TC.region ?_
  refine S.q rfl rfl (Qt.move (by conv => lhs; whnf)) ?_
  refine S.opS rfl rfl (OpV.con (Pre := []) (R := _) Tryd.ent84 rfl (List.Perm.refl _) (fun w hw => all84_walk tb w) ?_)
  rintro v L' ⟨bF, rfl, rfl⟩
  refine S.nil ?_
  refine TC.block ?_
  refine TC.rangeFunc2 (α := Fin ls.length) (fun i : Fin ls.length => [Value.int .u64 (((lvT ms).getD i.val 0 : Nat) : Int), hv (getT E ms (0, (lvT ms).getD i.val 0))]) (fun ys => ys = List.finRange ls.length) (fun _ => True) (fun ys : List (Fin ls.length) => ∃ j, j ≤ ls.length ∧ ys = (List.finRange ls.length).take j) (fun pre L' => L' = [Blk b5 3 [.int .i64 ((pre.length : Nat) : Int)]]) (fun _ _ _ => False) (L0 := [Blk b5 3 [.int .i64 ((([] : List (Fin ls.length)).length : Nat) : Int)]]) (R := [Blk bF 35 [.pointer (some ⟨tb, 0, none⟩)], Blk b4 4 [.bool false], Blk b3 52 (vl (.agg #[.int .i64 (height : Int), .slice Al ls.length cl, .slice O 33 d]))]) rfl rfl Tryd.ent121 rfl (fun _ => rfl) (List.perm_middle (l₁ := [_])) rfl (fun w L' hw => all_gen E tb mb height ms hn (lvT ms) rfl ls.length hll bF w L' hw.sat.left (Ro.of_pre hw hB) (Ro.of_pre hw hM) (Ro.of_rest hw (.head _))) ?_ ?_ (fun _ _ _ _ _ h => h.elim)
  · rintro w' l Dd Rr Rb pre x L' ⟨j, hj, hpj⟩ rfl hst
    obtain ⟨hxv, hpl⟩ := fin_pre hpj
    have hb3 := Ro.of_rest (A := Blk b3 52 (vl (.agg #[.int .i64 (height : Int), .slice Al ls.length cl, .slice O 33 d]))) hst (.tail _ (.tail _ (.head _)))
    have hL1 := Ro.of_pre hst hL
    have hx1 : (lvT ms).getD x.val 0 = (ls.getD pre.length leaf0).1 := by rw [hxv]; exact (ht.leafAt ho hpl).1
    have hx2 : getT E ms (0, (lvT ms).getD x.val 0) = (ls.getD pre.length leaf0).2 := by rw [hxv]; exact (ht.leafAt ho hpl).2
    refine TC.seq ?_
    refine TC.region ?_
    refine S.q rfl rfl (Qt.assign (by conv => lhs; whnf)) ?_
    refine S.nil ?_
    refine TC.region ?_
    refine S.opS rfl rfl (OpV.alloc Tryd.zero23 (fun b7 => ?_))
    refine S.opN rfl (OpV.storeV0 (v := hv (_)) rfl rfl (hv_size Tryd.cells23) (hv_all _) (hv_len _) ?_)
    refine S.nil ?_
    refine ⟨_, Sub.trans (Sub.keep _ (Sub.refl _)) (Sub.of_perm (List.perm_middle (l₁ := [_]))), ?_⟩
    refine TC.block ?_
    refine TC.seq ?_
    refine TC.seq ?_
    refine S.draw ([], []) Tryd.mixed (Sub.nil _) ?_
    refine D.qX (k := 0) rfl (by kernel_rfl) (by kernel_rfl) (by kernel_rfl) rfl rfl (Qt.load rfl (Ld.one (v := .int .i64 ((pre.length : Nat) : Int)) (Has.at 3 rfl) Tryd.one3 rfl)) ?_
    refine D.qX (k := 1) rfl (by kernel_rfl) (by kernel_rfl) (by kernel_rfl) rfl rfl (Qt.field Tryd.underlying52 rfl Tryd.cells50 rfl) ?_
    refine D.qX (k := 2) rfl (by kernel_rfl) (by kernel_rfl) (by kernel_rfl) rfl rfl (Qt.load rfl (Ld.one (v := .slice Al ls.length cl) (Has.ro hb3) Tryd.one50 rfl)) ?_
    refine D.qX (k := 3) rfl (by kernel_rfl) (by kernel_rfl) (by kernel_rfl) rfl rfl (Qt.len_slice Tryd.underlying50 rfl) ?_
    refine D.qX (k := 4) rfl (by kernel_rfl) (by kernel_rfl) (by kernel_rfl) rfl rfl (Qt.dF (Qt.ge rfl rfl) (by omega)) ?_
    refine D.qX (k := 5) rfl (by kernel_rfl) (by kernel_rfl) (by kernel_rfl) rfl rfl (Qt.move (by conv => lhs; whnf)) ?_
    refine D.qgX (k := 6) rfl (by kernel_rfl) (by kernel_rfl) (by kernel_rfl) rfl rfl rfl (Qt.move (by conv => lhs; whnf)) ?_
    refine D.qgX (k := 7) rfl (by kernel_rfl) (by kernel_rfl) (by kernel_rfl) rfl rfl rfl (Qt.field Tryd.underlying52 rfl Tryd.cells50 rfl) ?_
    refine D.qgX (k := 8) rfl (by kernel_rfl) (by kernel_rfl) (by kernel_rfl) rfl rfl rfl (Qt.load rfl (Ld.one (v := .slice Al ls.length cl) (Has.ro hb3) Tryd.one50 rfl)) ?_
    refine D.qgX (k := 9) rfl (by kernel_rfl) (by kernel_rfl) (by kernel_rfl) rfl rfl rfl (Qt.load rfl (Ld.one (v := .int .i64 ((pre.length : Nat) : Int)) (Has.at 3 rfl) Tryd.one3 rfl)) ?_
    refine D.qgX (k := 10) rfl (by kernel_rfl) (by kernel_rfl) (by kernel_rfl) rfl rfl rfl (Qt.index Tryd.underlying50 Tryd.cells163 rfl rfl (by omega) (Has.ro hL1) (by rw [leafL_len]; omega)) ?_
    refine D.qgX (k := 11) rfl (by kernel_rfl) (by kernel_rfl) (by kernel_rfl) rfl rfl rfl (Qt.fieldS Tryd.underlying163 rfl Tryd.cells24 rfl (Has.ro hL1) (by rw [leafL_len]; omega)) ?_
    refine D.qgX (k := 12) rfl (by kernel_rfl) (by kernel_rfl) (by kernel_rfl) rfl rfl rfl (Qt.load rfl (Ld.sl (v := .int .u64 ((ls.getD pre.length leaf0).1 : Int)) (Has.ro hL1) Tryd.one24 (leaf_at (by omega) 0 _ rfl))) ?_
    refine D.qgX (k := 13) rfl (by kernel_rfl) (by kernel_rfl) (by kernel_rfl) rfl rfl rfl (Qt.dF (Qt.ne rfl rfl) (fun h => h hx1)) ?_
    refine D.qX (k := 14) rfl (by kernel_rfl) (by kernel_rfl) (by kernel_rfl) rfl rfl (Qt.pick_f rfl (by conv => lhs; whnf)) ?_
    refine D.qX (k := 15) rfl (by kernel_rfl) (by kernel_rfl) (by kernel_rfl) rfl rfl (Qt.move (by conv => lhs; whnf)) ?_
    refine D.qgX (k := 16) rfl (by kernel_rfl) (by kernel_rfl) (by kernel_rfl) rfl rfl rfl (Qt.load rfl (Ld.hash1 (x := getT E ms (0, (lvT ms).getD x.val 0)) (Has.at 1 rfl) Tryd.row23 Tryd.cells23)) ?_
    refine D.qgX (k := 17) rfl (by kernel_rfl) (by kernel_rfl) (by kernel_rfl) rfl rfl rfl (Qt.field Tryd.underlying52 rfl Tryd.cells50 rfl) ?_
    refine D.qgX (k := 18) rfl (by kernel_rfl) (by kernel_rfl) (by kernel_rfl) rfl rfl rfl (Qt.load rfl (Ld.one (v := .slice Al ls.length cl) (Has.ro hb3) Tryd.one50 rfl)) ?_
    refine D.qgX (k := 19) rfl (by kernel_rfl) (by kernel_rfl) (by kernel_rfl) rfl rfl rfl (Qt.load rfl (Ld.one (v := .int .i64 ((pre.length : Nat) : Int)) (Has.at 3 rfl) Tryd.one3 rfl)) ?_
    refine D.qgX (k := 20) rfl (by kernel_rfl) (by kernel_rfl) (by kernel_rfl) rfl rfl rfl (Qt.index Tryd.underlying50 Tryd.cells163 rfl rfl (by omega) (Has.ro hL1) (by rw [leafL_len]; omega)) ?_
    refine D.qgX (k := 21) rfl (by kernel_rfl) (by kernel_rfl) (by kernel_rfl) rfl rfl rfl (Qt.fieldS Tryd.underlying163 rfl Tryd.cells23 rfl (Has.ro hL1) (by rw [leafL_len]; omega)) ?_
    refine D.qgX (k := 22) rfl (by kernel_rfl) (by kernel_rfl) (by kernel_rfl) rfl rfl rfl (Qt.load rfl (Ld.slr (vs := hvl (ls.getD pre.length leaf0).2) (Has.ro hL1) Tryd.row23 (by rw [hvl_length]; exact Tryd.cells23) (by rw [hvl_length]; decide) (fun j v hj => by have := leaf_at (k := pre.length) (by omega) (1 + j) v (leafL_hash _ j v hj); rw [← Nat.add_assoc] at this; exact this))) ?_
    refine D.qgX (k := 23) rfl (by kernel_rfl) (by kernel_rfl) (by kernel_rfl) rfl rfl rfl (Qt.dF (Qt.neH (a := getT E ms (0, (lvT ms).getD x.val 0)) (b := (ls.getD pre.length leaf0).2) Tryd.guard23 Tryd.underlying23 Tryd.underlying5 Tryd.cells5 rfl rfl) (fun h => h hx2)) ?_
    refine D.qX (k := 24) rfl (by kernel_rfl) (by kernel_rfl) (by kernel_rfl) rfl rfl (Qt.pick_f rfl (by conv => lhs; whnf)) ?_
    refine D.done (Sub.nil _) (by kernel_rfl) ?_
    refine S.if_f rfl ?_
    refine TC.skip ?_
    refine TC.region ?_
    refine S.q rfl rfl (Qt.load rfl (Ld.one (v := .int .i64 ((pre.length : Nat) : Int)) (Has.at 3 rfl) Tryd.one3 rfl)) ?_
    refine S.q rfl rfl (Qt.add (b := 1) rfl rfl (by simp only [kmax]; omega)) ?_
    refine S.opN rfl (OpV.storeV3 rfl (by conv => lhs; whnf) (by exact Tryd.cells3) (by rfl) (by rfl) ?_)
    refine S.nil ?_
    refine ⟨_, Sub.trans (Sub.keep _ (Sub.keep _ (Sub.keep _ (Sub.drop _ (Sub.nil []))))) (Sub.keep _ (Sub.trans (Sub.keep _ (Sub.trans (Sub.keep _ (Sub.refl _)) (Sub.of_perm (List.perm_middle (l₁ := [_]))))) (Sub.of_perm (List.perm_middle (l₁ := [_]))))), ?_⟩
    show [_] = [Blk b5 3 [.int .i64 (((pre ++ [x]).length : Nat) : Int)]]
    rw [len_snoc]
    rfl
  · rintro Dd ys L' rfl rfl
    rw [List.length_finRange]
    refine TC.seq ?_
    refine TC.region ?_
    refine S.q rfl rfl (Qt.load rfl (Ld.one (v := .int .i64 ((ls.length : Nat) : Int)) (Has.at 1 rfl) Tryd.one3 rfl)) ?_
    refine S.q rfl rfl (Qt.field Tryd.underlying52 rfl Tryd.cells50 rfl) ?_
    refine S.q rfl rfl (Qt.load rfl (Ld.one (v := .slice Al ls.length cl) (Has.at 4 rfl) Tryd.one50 rfl)) ?_
    refine S.q rfl rfl (Qt.len_slice Tryd.underlying50 rfl) ?_
    refine S.q rfl rfl (Qt.dT (Qt.eq rfl rfl) (rfl)) ?_
    refine S.opN rfl (OpV.storeV3 rfl (by conv => lhs; whnf) (by exact Tryd.cells4) (by rfl) (by rfl) ?_)
    refine S.nil ?_
    refine TC.ret ?_
    refine finQ.retM rfl (Sub.refl _) (RVs.cell rfl (Ld.one (Has.at 2 rfl) Tryd.one4 (rfl)) RVs.nil) (Sub.nil _) ?_
    exact ⟨rfl, rfl⟩
theorem is77_R (E : Nat → H32) (hE : ∀ h, E (h + 1) = joinH (h + 1) (E h) (E h)) (tb mb height : Nat) (ms : Tm) (hh : height ≤ 32) (ls : Ls) (Al : Option Addr) (cl : Nat) (O : Option Addr) (d : Nat) (ht : TreeOk E height (fL E ls) ms) (ho : LsOk E height ls) (hlen : ls.length ≤ 4096) (w0 : World) (hB : Ro w0 [] (Blk tb 150 (treeCs E height mb))) (hM : Ro w0 [] (MapA mb encAt hv (ms))) (hL : Ro w0 [] (SlA Al (ls.flatMap leafL))) (hO : Ro w0 [] (SlA O (hcs (emptL E)))) (hT2 : Tabs 3 1 w0 []) : Calls Tryd.prog 77 #[.pointer (some ⟨tb, 0, none⟩), .agg #[.int .i64 (height : Int), .slice Al ls.length cl, .slice O 33 d]] w0 (Ret w0 (.bool true)) := Calls.ret (is77_walk E hE tb mb height ms hh ls Al cl O d ht ho hlen w0 hB hM hL hO hT2)

end Go.Proofs.YtlneklemjfefpaaDoor
