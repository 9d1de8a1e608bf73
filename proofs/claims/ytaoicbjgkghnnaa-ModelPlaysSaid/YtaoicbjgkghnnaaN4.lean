/-
  Walks: the document's volume. Printed by a program of ours. Walks: the calls of the document's volume. Printed by a program of ours. Walks: one act of the document's. Printed by a program of ours.
-/
import Derived.Test.YtaoicbjgkghnnaaNF
import Derived.Test.YtaoicbjgkghnnaaN3
namespace Go.Proofs.Ytaoicbjgkghnnaa
open Go.E
set_option linter.unusedVariables false
set_option maxRecDepth 4000
theorem Try.zero84 : zeroOf Try.prog 84 = some ([.int .u64 0] ++ (List.replicate 32 (.int .u8 0))) := by kernel_rfl
theorem Try.ent44 : Enters Try.prog 44 := ⟨_, Try.func44, by kernel_rfl, rfl⟩
theorem Try.elem84 : elemT Try.prog 84 33 40 := elemT_of (by kernel_rfl)
theorem Try.build45 (n : Int) (w : World) : (Instr.build 45 #[(0, .int .u64 n)]).run Try.prog w = .ok (.agg #[.int .u64 n, .slice none 0 0]) w := by kernel_rfl
theorem Qt.build1 {C : Ctx} {env : Env} {L : List Assn} {T ty : TypeId} {dst : Option Tmp} {pos : String} {after : Array Edge} {guard : Option (Nat × Bool)} {i : Nat} {x : Operand} {a v : Value} (hx : env.ev x = a) (h : ∀ w, (Instr.build T #[(i, a)]).run C.P w = .ok v w) : Qt C L ⟨dst, .build T #[(i, x)], ty, pos, after, guard⟩ env v := Qt.build (ps := #[(i, a)]) (by simp [hx]) h
theorem rd_own {w0 w : World} {M : List Nat} {L : List Assn} {e : TypeId} {sz : Nat} {A : Option Addr} {n c : Nat} {xs : List Value} (h : St w0 M L w) (i : Nat) (hi : L[i]? = some (OwnA e sz A n c xs)) : Ro w [] (SlA A xs) := Rd.own (C := ⟨Try.prog, 0, w0, M, none⟩) (Rd.at i hi) w h
theorem look_none_of {ls : Ls} {i : Nat} (h : ∀ j, j < ls.length → (ls.getD j leaf0).1 ≠ i) : Go.E.look i ls = none := by
  refine look_none.2 fun hm => ?_
  obtain ⟨x, hx, rfl⟩ := List.mem_map.1 hm
  obtain ⟨j, hj, rfl⟩ := List.mem_iff_getElem.1 hx
  exact h j hj (by simp [List.getD, hj])
theorem look_first : ∀ {ls : Ls} {i k : Nat}, k < ls.length → (∀ j, j < k → (ls.getD j leaf0).1 ≠ i) → (ls.getD k leaf0).1 = i → Go.E.look i ls = some (ls.getD k leaf0).2
  | [], i, k, hk, _, _ => absurd hk (Nat.not_lt_zero _)
  | x :: ls, i, 0, hk, _, h => by
    have h' : x.1 = i := h
    rw [look_cons, if_pos h'.symm]; rfl
  | x :: ls, i, k + 1, hk, hp, h => by
    have h0 : x.1 ≠ i := hp 0 (Nat.succ_pos _)
    rw [look_cons, if_neg (fun e => h0 e.symm)]
    exact look_first (ls := ls) (k := k) (by simpa using hk) (fun j hj => hp (j + 1) (by omega)) h
def Held (A : Option Addr) (c : Nat) (ls : Ls) (A2 : Option Addr) (c2 : Nat) (ls2 : Ls) (L : List Assn) : Prop :=
  (L = [] ∧ ls2 = ls ∧ A2 = A ∧ c2 = c) ∨ L = [OwnA 84 33 A2 ls2.length c2 (ls2.flatMap leafL)]
theorem read_stepD (F : Nat → H32) (xs : List Nat) (k : Nat) (h : k < xs.length) : hcs ((xs.take k).map F) ++ hvl (F (xs.getD k 0)) = hcs ((xs.take (k + 1)).map F) := by
  rw [List.take_succ_eq_append_getElem h, List.map_append, hcs_append]
  simp [hcs, List.getD, h]
theorem range_stepD (F : Nat → H32) (k : Nat) : hcs ((List.range k).map F) ++ hvl (F k) = hcs ((List.range (k + 1)).map F) := by
  rw [List.range_succ, List.map_append, hcs_append]
  simp [hcs]
set_option maxHeartbeats 1600000 in
theorem without_walk (n : Nat) (ls : Ls) (Al : Option Addr) (cl : Nat) (i : Nat) (w0 : World) (hlen : ls.length ≤ 200000) (hL : Ro w0 [] (SlA Al (ls.flatMap leafL))) :
    Calls Try.prog 44 #[.agg #[.int .u64 (n : Int), .slice Al ls.length cl], .int .u64 (i : Int)] w0 (Post w0 [] fun v L => ∃ A2 c2, v = .agg #[.int .u64 (n : Int), .slice A2 (outL i ls).length c2] ∧ L = [OwnA 84 33 A2 (outL i ls).length c2 ((outL i ls).flatMap leafL)]) := by
  refine Calls.of (L := []) (n := 36) (rs := [.cell 4 45]) Try.func44 rfl rfl rfl (Nat.le_of_ble_eq_true rfl) (Sat.nil _) ?_
  refine TC.ownNil 84 33 ?_
  refine TC.seq ?_
  refine TC.region ?_
  refine S.opS rfl rfl (OpV.box (v := .agg #[.int .u64 (n : Int), .slice Al ls.length cl]) rfl (fun b2 => ?_))
  refine S.opS rfl rfl (OpV.alloc Try.zero45 (fun b4 => ?_))
  refine S.nil ?_
  refine TC.seq ?_
  refine TC.region ?_
  refine S.q rfl rfl (Qt.field Try.underlying45 rfl Try.cells24 rfl) ?_
  refine S.q rfl rfl (Qt.load rfl (Ld.one (Has.at 1 rfl) Try.one24 (rfl))) ?_
  refine S.q rfl rfl (Qt.build1 (a := .int .u64 (n : Int)) rfl (Try.build45 n)) ?_
  refine S.opS rfl rfl (OpV.alloc Try.zero45 (fun b5 => ?_))
  refine S.opN rfl (OpV.storeV0 rfl (by conv => lhs; whnf) (by exact Try.cells45) (by rfl) (by rfl) ?_)
  refine S.nil ?_
  refine TC.seq ?_
  refine TC.seq ?_
  refine TC.region ?_
  refine S.q rfl rfl (Qt.assign (by conv => lhs; whnf)) ?_
  refine S.nil ?_
  refine TC.block ?_
  refine TC.loop (γ := Nat × Ls × Option Addr × Nat) [10, 11, 12, 13, 14, 17, 18, 19, 20, 21, 22, 23, 24, 25, 26, 27, 28, 29, 30, 31, 32, 33, 34, 15, 16, 6] (fun g => [(6, .int .i64 ((g.1 : Nat) : Int))]) (fun g => [OwnA 84 33 g.2.2.1 (g.2.1).length g.2.2.2 ((g.2.1).flatMap leafL), Blk b5 45 [.int .u64 (n : Int), .slice g.2.2.1 g.2.1.length g.2.2.2], Blk b4 45 [.int .u64 0, .slice none 0 0], Blk b2 45 (vl (.agg #[.int .u64 (n : Int), .slice Al ls.length cl]))]) (fun g => g.1 ≤ ls.length ∧ g.2.1 = outL i (ls.take g.1)) (fun g => ls.length - g.1) ((0, [], none, 0))
    ⟨Nat.zero_le _, rfl⟩ ⟨Out.refl _ _, (List.forall_mem_cons.2 ⟨rfl, (fun _ h => nomatch h)⟩)⟩ (Sub.trans (Sub.keep _ (Sub.refl _)) (Sub.of_perm (List.perm_middle (l₁ := [_, _, _])))) ?_
  rintro ⟨k, out, A1, c1⟩ u ⟨hk, ha⟩
  dsimp only at hk ha
  have hal : out.length ≤ k := by rw [ha]; exact outL_len i ls k hk
  refine TC.seq ?_
  refine TC.seq ?_
  refine TC.region ?_
  refine S.q rfl rfl (Qt.move (by conv => lhs; whnf)) ?_
  refine S.q rfl rfl (Qt.field Try.underlying45 rfl Try.cells43 rfl) ?_
  refine S.q rfl rfl (Qt.load rfl (Ld.one (Has.at 3 rfl) Try.one43 (rfl))) ?_
  refine S.q rfl rfl (Qt.len_slice Try.underlying43 rfl) ?_
  refine S.dec rfl rfl (Qt.lt rfl rfl) (fun h14 => ?_) (fun h14 => ?_)
  · refine S.nil ?_
    refine S.if_t rfl ?_
    refine TC.skip ?_
    refine TC.seq ?_
    refine TC.block ?_
    refine TC.seq ?_
    refine TC.region ?_
    refine S.q rfl rfl (Qt.field Try.underlying45 rfl Try.cells43 rfl) ?_
    refine S.q rfl rfl (Qt.load rfl (Ld.one (Has.at 3 rfl) Try.one43 (rfl))) ?_
    refine S.q rfl rfl (Qt.move (by conv => lhs; whnf)) ?_
    refine S.q rfl rfl (Qt.index Try.underlying43 Try.cells84 rfl rfl (by omega) (Has.ro hL) (by rw [leafL_len]; omega)) ?_
    refine S.q rfl rfl (Qt.fieldS Try.underlying84 rfl Try.cells24 rfl (Has.ro hL) (by rw [leafL_len]; omega)) ?_
    refine S.q rfl rfl (Qt.load rfl (Ld.sl (v := .int .u64 (((ls.getD k leaf0)).1 : Int)) (Has.ro hL) Try.one24 (leaf_at (by omega) 0 _ rfl))) ?_
    refine S.q rfl rfl (Qt.move (by conv => lhs; whnf)) ?_
    refine S.dec rfl rfl (Qt.ne rfl rfl) (fun h24 => ?_) (fun h24 => ?_)
    · refine S.nil ?_
      refine S.if_t rfl ?_
      refine S.draw ([8, 10], [7]) Try.mixed (Sub.nil _) ?_
      refine D.qX (k := 0) rfl (by kernel_rfl) (by kernel_rfl) (by kernel_rfl) rfl rfl (Qt.field Try.underlying45 rfl Try.cells43 rfl) ?_
      refine D.qX (k := 1) rfl (by kernel_rfl) (by kernel_rfl) (by kernel_rfl) rfl rfl (Qt.load rfl (Ld.one (Has.at 1 rfl) Try.one43 (rfl))) ?_
      refine D.qX (k := 2) rfl (by kernel_rfl) (by kernel_rfl) (by kernel_rfl) rfl rfl (Qt.field Try.underlying45 rfl Try.cells43 rfl) ?_
      refine D.qX (k := 3) rfl (by kernel_rfl) (by kernel_rfl) (by kernel_rfl) rfl rfl (Qt.load rfl (Ld.one (Has.at 3 rfl) Try.one43 (rfl))) ?_
      refine D.qX (k := 4) rfl (by kernel_rfl) (by kernel_rfl) (by kernel_rfl) rfl rfl (Qt.move (by conv => lhs; whnf)) ?_
      refine D.qX (k := 5) rfl (by kernel_rfl) (by kernel_rfl) (by kernel_rfl) rfl rfl (Qt.index Try.underlying43 Try.cells84 rfl rfl (by omega) (Has.ro hL) (by rw [leafL_len]; omega)) ?_
      refine D.qX (k := 6) rfl (by kernel_rfl) (by kernel_rfl) (by kernel_rfl) rfl rfl (Qt.load rfl (Ld.slr (vs := leafL ((ls.getD k leaf0))) (Has.ro hL) Try.row84 (by rw [leafL_length]; exact Try.cells84) (by rw [leafL_length]; decide) (leaf_at (by omega)))) ?_
      refine D.nS (k := 7) (Sub.nil _) rfl (by kernel_rfl) (by kernel_rfl) rfl rfl (OpV.slice1 (bytes := 40) (v := .agg (leafL ((ls.getD k leaf0))).toArray) Try.underlying43 Try.elem84 (by decide) rfl (leafL_vl _) (fun g32 => ⟨Sub.drop _ (Sub.keep _ (Sub.keep _ (Sub.keep _ (Sub.keep _ (Sub.nil []))))), ?_⟩))
      refine D.opS (k := 8) (Sub.nil _) rfl (by kernel_rfl) (by kernel_rfl) rfl rfl (OpV.app1 (bytes := 40) (news := leafL ((ls.getD k leaf0))) Try.underlying43 Try.elem84 rfl rfl (Has.blk (cs := leafL ((ls.getD k leaf0))) (Has.at 0 rfl)) (by rw [leafL_length]) (leafL_one _) (by simp only [maxLen]; omega) (by (try dsimp only); omega) (fun O1 d1 => ⟨Sub.nil _, ?_⟩))
      refine D.qX (k := 9) rfl (by kernel_rfl) (by kernel_rfl) (by kernel_rfl) rfl rfl (Qt.field Try.underlying45 rfl Try.cells43 rfl) ?_
      refine D.opN (k := 10) (Sub.nil _) rfl (by kernel_rfl) (by kernel_rfl) rfl (OpV.storeC2 rfl (by conv => lhs; whnf) Try.cells43 rfl rfl (Nat.le_of_ble_eq_true rfl) ⟨Sub.nil _, ?_⟩)
      refine D.done (Sub.nil _) (by kernel_rfl) ?_
      refine TC.region ?_
      refine S.q rfl rfl (Qt.move (by conv => lhs; whnf)) ?_
      refine S.q rfl rfl (Qt.add (b := 1) rfl rfl (by simp only [kmax]; omega)) ?_
      refine S.q rfl rfl (Qt.assign (by conv => lhs; whnf)) ?_
      refine S.nil ?_
      refine ⟨(k + 1, out ++ [(ls.getD k leaf0)], O1, d1), ?_, ?_, ⟨?_, (List.forall_mem_cons.2 ⟨rfl, (fun _ h => nomatch h)⟩)⟩, (by dsimp only; simp only [len_snoc, flat_snoc]; exact Sub.trans (Sub.keep _ (Sub.keep _ (Sub.keep _ (Sub.keep _ (Sub.drop _ (Sub.nil [])))))) (Sub.trans (Sub.keep _ (Sub.trans (Sub.keep _ (Sub.trans (Sub.keep _ (Sub.trans (Sub.keep _ (Sub.refl _)) (Sub.of_perm (List.perm_middle (l₁ := [_]))))) (Sub.of_perm (List.perm_middle (l₁ := [_]))))) (Sub.of_perm (List.perm_middle (l₁ := [_]))))) (Sub.of_perm (List.perm_middle (l₁ := [_])))))⟩
      · exact ⟨by show _ ≤ _; dsimp only; omega, by dsimp only; rw [outL_step i ls h14, if_pos h24, ha]⟩
      · show _ < _; dsimp only; omega
      repeat (first | exact Out.refl _ _ | refine Out.put rfl ?_ | refine Out.puts rfl ?_ | refine Out.scr ?_ | refine Out.scr' rfl ?_)
    · refine S.nil ?_
      refine S.if_f rfl ?_
      refine TC.skip ?_
      refine TC.region ?_
      refine S.q rfl rfl (Qt.move (by conv => lhs; whnf)) ?_
      refine S.q rfl rfl (Qt.add (b := 1) rfl rfl (by simp only [kmax]; omega)) ?_
      refine S.q rfl rfl (Qt.assign (by conv => lhs; whnf)) ?_
      refine S.nil ?_
      refine ⟨(k + 1, out, A1, c1), ?_, ?_, ⟨?_, (List.forall_mem_cons.2 ⟨rfl, (fun _ h => nomatch h)⟩)⟩, Sub.refl _⟩
      · exact ⟨by show _ ≤ _; dsimp only; omega, by dsimp only; rw [outL_step i ls h14, if_neg h24, ha]⟩
      · show _ < _; dsimp only; omega
      repeat (first | exact Out.refl _ _ | refine Out.put rfl ?_ | refine Out.puts rfl ?_ | refine Out.scr ?_ | refine Out.scr' rfl ?_)
  · refine S.nil ?_
    refine S.if_f rfl ?_
    refine TC.exit ?_
    refine TC.seq ?_
    refine TC.region ?_
    refine S.q rfl rfl (Qt.load rfl (Ld.all (Has.at 1 rfl) Try.row45 (Try.cells45))) ?_
    refine S.opN rfl (OpV.storeV2 rfl (by conv => lhs; whnf) (by exact Try.cells45) (by rfl) (by rfl) ?_)
    refine S.nil ?_
    refine TC.ret ?_
    refine finQ.ret (RVs.cell rfl (Ld.all (Has.at 2 rfl) Try.row45 (Try.cells45)) RVs.nil) (Sub.keep _ (Sub.drop _ (Sub.drop _ (Sub.drop _ (Sub.nil []))))) ?_
    rw [take_all ls (by omega)] at ha
    subst ha
    exact ⟨A1, c1, rfl, rfl⟩
set_option maxHeartbeats 3200000 in
theorem with_walk (n : Nat) (ls : Ls) (Al : Option Addr) (cl : Nat) (i : Nat) (h : H32) (hr : ls.Pairwise (fun a b => a.1 < b.1)) (w0 : World) (hlen : ls.length ≤ 200000) (hL : Ro w0 [] (SlA Al (ls.flatMap leafL))) :
    Calls Try.prog 43 #[.agg #[.int .u64 (n : Int), .slice Al ls.length cl], .int .u64 (i : Int), hv h] w0 (Post w0 [] fun v L => ∃ A2 c2, v = .agg #[.int .u64 (n : Int), .slice A2 (withL i h ls).length c2] ∧ L = [OwnA 84 33 A2 (withL i h ls).length c2 ((withL i h ls).flatMap leafL)]) := by
  refine Calls.of (L := []) (n := 65) (rs := [.cell 6 45]) Try.func43 rfl rfl rfl (Nat.le_of_ble_eq_true rfl) (Sat.nil _) ?_
  have hru := outL_rise (i := i) hr
  have hul : (outL i ls).length ≤ ls.length := List.length_filter_le ..
  refine TC.ownNil 84 33 ?_
  refine TC.seq ?_
  refine TC.region ?_
  refine S.opS rfl rfl (OpV.box (v := .agg #[.int .u64 (n : Int), .slice Al ls.length cl]) rfl (fun b3 => ?_))
  refine S.opS rfl rfl (OpV.box (v := hv h) rfl (fun b5 => ?_))
  refine S.opS rfl rfl (OpV.alloc Try.zero45 (fun b6 => ?_))
  refine S.nil ?_
  refine TC.seq ?_
  refine TC.region ?_
  refine S.q rfl rfl (Qt.load rfl (Ld.all (vs := vl (.agg #[.int .u64 (n : Int), .slice Al ls.length cl])) (Has.at 2 rfl) Try.row45 Try.cells45)) ?_
  refine S.q rfl rfl (Qt.move (by conv => lhs; whnf)) ?_
  refine S.opS rfl rfl (OpV.con (Pre := []) (R := _) Try.ent44 rfl (List.Perm.refl _) (fun w hw => without_walk n ls Al cl i w hlen (Rd.ro hL w hw)) ?_)
  rintro v L' ⟨A3, c3, rfl, rfl⟩
  refine S.opS rfl rfl (OpV.alloc Try.zero45 (fun b7 => ?_))
  refine S.opN rfl (OpV.storeV0 rfl (by conv => lhs; whnf) (by exact Try.cells45) (by rfl) (by rfl) ?_)
  refine S.nil ?_
  refine TC.seq ?_
  refine TC.region ?_
  refine S.q rfl rfl (Qt.field Try.underlying45 rfl Try.cells24 rfl) ?_
  refine S.q rfl rfl (Qt.load rfl (Ld.one (Has.at 4 rfl) Try.one24 (rfl))) ?_
  refine S.q rfl rfl (Qt.build1 (a := .int .u64 (n : Int)) rfl (Try.build45 n)) ?_
  refine S.opS rfl rfl (OpV.alloc Try.zero45 (fun b8 => ?_))
  refine S.opN rfl (OpV.storeV0 rfl (by conv => lhs; whnf) (by exact Try.cells45) (by rfl) (by rfl) ?_)
  refine S.nil ?_
  refine TC.seq ?_
  refine TC.region ?_
  refine S.q rfl rfl (Qt.assign (by conv => lhs; whnf)) ?_
  refine S.nil ?_
  refine TC.seq ?_
  refine TC.seq ?_
  refine TC.region ?_
  refine S.q rfl rfl (Qt.assign (by conv => lhs; whnf)) ?_
  refine S.nil ?_
  refine TC.block ?_
  refine TC.loop (γ := Nat × Ls × Bool × Option Addr × Nat) [17, 18, 19, 20, 21, 24, 25, 26, 27, 28, 29, 30, 31, 32, 33, 34, 35, 36, 37, 38, 39, 40, 41, 42, 43, 9, 44, 45, 46, 47, 48, 49, 50, 51, 52, 53, 22, 23, 10] (fun g => [(10, .int .i64 ((g.1 : Nat) : Int)), (9, .bool g.2.2.1)]) (fun g => [OwnA 84 33 g.2.2.2.1 (g.2.1).length g.2.2.2.2 ((g.2.1).flatMap leafL), Blk b8 45 [.int .u64 (n : Int), .slice g.2.2.2.1 g.2.1.length g.2.2.2.2], Blk b7 45 [.int .u64 (n : Int), .slice A3 (outL i ls).length c3], Blk b6 45 [.int .u64 0, .slice none 0 0], Blk b5 58 (hvl h), Blk b3 45 (vl (.agg #[.int .u64 (n : Int), .slice Al ls.length cl])), OwnA 84 33 A3 ((outL i ls)).length c3 (((outL i ls)).flatMap leafL)]) (fun g => g.1 ≤ (outL i ls).length ∧ PutS i h false (outL i ls) g.1 g.2.2.1 g.2.1) (fun g => (outL i ls).length - g.1) ((0, [], false, none, 0))
    ⟨Nat.zero_le _, PutS.zero ..⟩ ⟨Out.refl _ _, (List.forall_mem_cons.2 ⟨rfl, (List.forall_mem_cons.2 ⟨rfl, (fun _ h => nomatch h)⟩)⟩)⟩ (Sub.trans (Sub.keep _ (Sub.keep _ (Sub.keep _ (Sub.trans (Sub.keep _ (Sub.trans (Sub.keep _ (Sub.trans (Sub.keep _ (Sub.refl _)) (Sub.of_perm (List.perm_middle (l₁ := [_]))))) (Sub.of_perm (List.perm_middle (l₁ := [_]))))) (Sub.of_perm (List.perm_middle (l₁ := [_]))))))) (Sub.of_perm (List.perm_middle (l₁ := [_, _, _, _, _, _])))) ?_
  rintro ⟨k, out, dn, A1, c1⟩ u ⟨hk, hq⟩
  dsimp only at hk hq
  have hol : out.length ≤ k + 1 := by have := hq.lenW hk; split at this <;> omega
  refine TC.seq ?_
  refine TC.seq ?_
  refine TC.region ?_
  refine S.q rfl rfl (Qt.move (by conv => lhs; whnf)) ?_
  refine S.q rfl rfl (Qt.field Try.underlying45 rfl Try.cells43 rfl) ?_
  refine S.q rfl rfl (Qt.load rfl (Ld.one (Has.at 2 rfl) Try.one43 (rfl))) ?_
  refine S.q rfl rfl (Qt.len_slice Try.underlying43 rfl) ?_
  refine S.dec rfl rfl (Qt.lt rfl rfl) (fun h21 => ?_) (fun h21 => ?_)
  · refine S.nil ?_
    refine S.if_t rfl ?_
    refine TC.skip ?_
    refine TC.seq ?_
    refine TC.block ?_
    refine TC.seq ?_
    refine TC.seq ?_
    refine TC.region ?_
    cases dn
    · refine S.q rfl rfl (Qt.move rfl) ?_
      refine S.q rfl rfl (Qt.not_f rfl) ?_
      refine S.q rfl rfl (Qt.move (by conv => lhs; whnf)) ?_
      refine S.qg rfl rfl rfl (Qt.field Try.underlying45 rfl Try.cells43 rfl) ?_
      refine S.qg rfl rfl rfl (Qt.load rfl (Ld.one (Has.at 2 rfl) Try.one43 (rfl))) ?_
      refine S.qg rfl rfl rfl (Qt.move (by conv => lhs; whnf)) ?_
      refine S.qg rfl rfl rfl (Qt.index Try.underlying43 Try.cells84 rfl rfl (by omega) (Has.own (Has.at 6 rfl)) (by rw [leafL_len]; omega)) ?_
      refine S.qg rfl rfl rfl (Qt.fieldS Try.underlying84 rfl Try.cells24 rfl (Has.own (Has.at 6 rfl)) (by rw [leafL_len]; omega)) ?_
      refine S.qg rfl rfl rfl (Qt.load rfl (Ld.sl (v := .int .u64 ((((outL i ls).getD k leaf0)).1 : Int)) (Has.own (Has.at 6 rfl)) Try.one24 (leaf_at (by omega) 0 _ rfl))) ?_
      refine S.qg rfl rfl rfl (Qt.move (by conv => lhs; whnf)) ?_
      refine S.decg rfl rfl rfl (Qt.gt rfl rfl) (fun h34 => ?_) (fun h34 => ?_)
      · refine S.q rfl rfl (Qt.pick_t rfl (by conv => lhs; whnf)) ?_
        refine S.nil ?_
        refine S.if_t rfl ?_
        refine TC.seq ?_
        refine TC.region ?_
        refine S.q rfl rfl (Qt.field Try.underlying45 rfl Try.cells43 rfl) ?_
        refine S.q rfl rfl (Qt.load rfl (Ld.one (Has.at 1 rfl) Try.one43 (rfl))) ?_
        refine S.q rfl rfl (Qt.move (by conv => lhs; whnf)) ?_
        refine S.q rfl rfl (Qt.load rfl (Ld.all (vs := hvl (h)) (Has.at 4 rfl) Try.row58 (by rw [hvl_length]; exact Try.cells58))) ?_
        refine S.q rfl rfl (Qt.as (Qt.buildS (vs := [.int .u64 (i : Int), hv h]) (pls := #[(0, 1), (1, 32)]) Try.underlying84 (fun w => by kernel_rfl) Try.zero84 rfl ⟨rfl, (by show some (1, 32) = some (1, _); rw [hv_len]), trivial⟩ (by rw [List.flatMap_cons, List.flatMap_singleton]; show 33 = ([Value.int .u64 (i : Int)] ++ vl (hv h)).length; rw [List.length_append, hv_len]; rfl)) (show _ = Value.agg (leafL (i, h)).toArray by rw [List.flatMap_cons, List.flatMap_singleton, vl_hv]; rfl)) ?_
        refine S.opS rfl rfl (OpV.slice1 (bytes := 40) (v := .agg (leafL ((i, h))).toArray) Try.underlying43 Try.elem84 (by decide) rfl (leafL_vl _) (fun g41 => ?_))
        refine S.opS rfl rfl (OpV.app1 (bytes := 40) (news := leafL ((i, h))) Try.underlying43 Try.elem84 rfl rfl (Has.blk (cs := leafL ((i, h))) (Has.at 0 rfl)) (by rw [leafL_length]) (leafL_one _) (by simp only [maxLen]; omega) (by (try dsimp only); omega) (fun O1 d1 => ?_))
        refine S.q rfl rfl (Qt.field Try.underlying45 rfl Try.cells43 rfl) ?_
        refine S.opN rfl (OpV.storeC2 rfl (by conv => lhs; whnf) Try.cells43 rfl rfl (Nat.le_of_ble_eq_true rfl) ?_)
        refine S.nil ?_
        refine TC.region ?_
        refine S.q rfl rfl (Qt.assign (by conv => lhs; whnf)) ?_
        refine S.nil ?_
        refine S.draw ([8, 10], [7]) Try.mixed (Sub.nil _) ?_
        refine D.qX (k := 0) rfl (by kernel_rfl) (by kernel_rfl) (by kernel_rfl) rfl rfl (Qt.field Try.underlying45 rfl Try.cells43 rfl) ?_
        refine D.qX (k := 1) rfl (by kernel_rfl) (by kernel_rfl) (by kernel_rfl) rfl rfl (Qt.load rfl (Ld.one (Has.at 2 rfl) Try.one43 (rfl))) ?_
        refine D.qX (k := 2) rfl (by kernel_rfl) (by kernel_rfl) (by kernel_rfl) rfl rfl (Qt.field Try.underlying45 rfl Try.cells43 rfl) ?_
        refine D.qX (k := 3) rfl (by kernel_rfl) (by kernel_rfl) (by kernel_rfl) rfl rfl (Qt.load rfl (Ld.one (Has.at 3 rfl) Try.one43 (rfl))) ?_
        refine D.qX (k := 4) rfl (by kernel_rfl) (by kernel_rfl) (by kernel_rfl) rfl rfl (Qt.move (by conv => lhs; whnf)) ?_
        refine D.qX (k := 5) rfl (by kernel_rfl) (by kernel_rfl) (by kernel_rfl) rfl rfl (Qt.index Try.underlying43 Try.cells84 rfl rfl (by omega) (Has.own (Has.at 7 rfl)) (by rw [leafL_len]; omega)) ?_
        refine D.qX (k := 6) rfl (by kernel_rfl) (by kernel_rfl) (by kernel_rfl) rfl rfl (Qt.load rfl (Ld.slr (vs := leafL (((outL i ls).getD k leaf0))) (Has.own (Has.at 7 rfl)) Try.row84 (by rw [leafL_length]; exact Try.cells84) (by rw [leafL_length]; decide) (leaf_at (by omega)))) ?_
        refine D.nS (k := 7) (Sub.nil _) rfl (by kernel_rfl) (by kernel_rfl) rfl rfl (OpV.slice1 (bytes := 40) (v := .agg (leafL (((outL i ls).getD k leaf0))).toArray) Try.underlying43 Try.elem84 (by decide) rfl (leafL_vl _) (fun g51 => ⟨Sub.drop _ (Sub.keep _ (Sub.keep _ (Sub.keep _ (Sub.keep _ (Sub.keep _ (Sub.keep _ (Sub.keep _ (Sub.keep _ (Sub.nil []))))))))), ?_⟩))
        refine D.opS (k := 8) (Sub.nil _) rfl (by kernel_rfl) (by kernel_rfl) rfl rfl (OpV.app2 (bytes := 40) (news := leafL (((outL i ls).getD k leaf0))) Try.underlying43 Try.elem84 rfl rfl (Has.blk (cs := leafL (((outL i ls).getD k leaf0))) (Has.at 0 rfl)) (by rw [leafL_length]) (leafL_one _) (by simp only [maxLen]; omega) (by (try dsimp only); omega) (fun O2 d2 => ⟨Sub.nil _, ?_⟩))
        refine D.qX (k := 9) rfl (by kernel_rfl) (by kernel_rfl) (by kernel_rfl) rfl rfl (Qt.field Try.underlying45 rfl Try.cells43 rfl) ?_
        refine D.opN (k := 10) (Sub.nil _) rfl (by kernel_rfl) (by kernel_rfl) rfl (OpV.storeC3 rfl (by conv => lhs; whnf) Try.cells43 rfl rfl (Nat.le_of_ble_eq_true rfl) ⟨Sub.nil _, ?_⟩)
        refine D.done (Sub.nil _) (by kernel_rfl) ?_
        refine TC.region ?_
        refine S.q rfl rfl (Qt.move (by conv => lhs; whnf)) ?_
        refine S.q rfl rfl (Qt.add (b := 1) rfl rfl (by simp only [kmax]; omega)) ?_
        refine S.q rfl rfl (Qt.assign (by conv => lhs; whnf)) ?_
        refine S.nil ?_
        refine ⟨(k + 1, out ++ [(i, h)] ++ [((outL i ls).getD k leaf0)], true, O2, d2), ?_, ?_, ⟨?_, (List.forall_mem_cons.2 ⟨rfl, (List.forall_mem_cons.2 ⟨rfl, (fun _ h => nomatch h)⟩)⟩)⟩, (by dsimp only; simp only [len_snoc, flat_snoc]; exact Sub.trans (Sub.keep _ (Sub.keep _ (Sub.keep _ (Sub.keep _ (Sub.keep _ (Sub.keep _ (Sub.keep _ (Sub.drop _ (Sub.drop _ (Sub.nil [])))))))))) (Sub.trans (Sub.keep _ (Sub.trans (Sub.keep _ (Sub.trans (Sub.keep _ (Sub.trans (Sub.keep _ (Sub.trans (Sub.keep _ (Sub.trans (Sub.keep _ (Sub.trans (Sub.keep _ (Sub.refl _)) (Sub.of_perm (List.perm_middle (l₁ := [_, _]))))) (Sub.of_perm (List.perm_middle (l₁ := [_, _]))))) (Sub.of_perm (List.perm_middle (l₁ := [_, _]))))) (Sub.of_perm (List.perm_middle (l₁ := [_, _]))))) (Sub.of_perm (List.perm_middle (l₁ := [_, _]))))) (Sub.of_perm (List.perm_middle (l₁ := [_, _]))))) (Sub.of_perm (List.perm_middle (l₁ := [_, _])))))⟩
        · exact ⟨by show _ ≤ _; dsimp only; omega, (hq.ins (fun e => e) hru h21 (Nat.le_of_lt h34)).keep (fun e => by cases e) hru h21 (outL_mem (getD_mem leaf0 h21)).2 (fun e => by cases e)⟩
        · show _ < _; dsimp only; omega
        repeat (first | exact Out.refl _ _ | refine Out.put rfl ?_ | refine Out.puts rfl ?_ | refine Out.scr ?_ | refine Out.scr' rfl ?_)
      · refine S.q rfl rfl (Qt.pick_t rfl (by conv => lhs; whnf)) ?_
        refine S.nil ?_
        refine S.if_f rfl ?_
        refine TC.skip ?_
        refine S.draw ([8, 10], [7]) Try.mixed (Sub.nil _) ?_
        refine D.qX (k := 0) rfl (by kernel_rfl) (by kernel_rfl) (by kernel_rfl) rfl rfl (Qt.field Try.underlying45 rfl Try.cells43 rfl) ?_
        refine D.qX (k := 1) rfl (by kernel_rfl) (by kernel_rfl) (by kernel_rfl) rfl rfl (Qt.load rfl (Ld.one (Has.at 1 rfl) Try.one43 (rfl))) ?_
        refine D.qX (k := 2) rfl (by kernel_rfl) (by kernel_rfl) (by kernel_rfl) rfl rfl (Qt.field Try.underlying45 rfl Try.cells43 rfl) ?_
        refine D.qX (k := 3) rfl (by kernel_rfl) (by kernel_rfl) (by kernel_rfl) rfl rfl (Qt.load rfl (Ld.one (Has.at 2 rfl) Try.one43 (rfl))) ?_
        refine D.qX (k := 4) rfl (by kernel_rfl) (by kernel_rfl) (by kernel_rfl) rfl rfl (Qt.move (by conv => lhs; whnf)) ?_
        refine D.qX (k := 5) rfl (by kernel_rfl) (by kernel_rfl) (by kernel_rfl) rfl rfl (Qt.index Try.underlying43 Try.cells84 rfl rfl (by omega) (Has.own (Has.at 6 rfl)) (by rw [leafL_len]; omega)) ?_
        refine D.qX (k := 6) rfl (by kernel_rfl) (by kernel_rfl) (by kernel_rfl) rfl rfl (Qt.load rfl (Ld.slr (vs := leafL (((outL i ls).getD k leaf0))) (Has.own (Has.at 6 rfl)) Try.row84 (by rw [leafL_length]; exact Try.cells84) (by rw [leafL_length]; decide) (leaf_at (by omega)))) ?_
        refine D.nS (k := 7) (Sub.nil _) rfl (by kernel_rfl) (by kernel_rfl) rfl rfl (OpV.slice1 (bytes := 40) (v := .agg (leafL (((outL i ls).getD k leaf0))).toArray) Try.underlying43 Try.elem84 (by decide) rfl (leafL_vl _) (fun g51 => ⟨Sub.drop _ (Sub.keep _ (Sub.keep _ (Sub.keep _ (Sub.keep _ (Sub.keep _ (Sub.keep _ (Sub.keep _ (Sub.nil [])))))))), ?_⟩))
        refine D.opS (k := 8) (Sub.nil _) rfl (by kernel_rfl) (by kernel_rfl) rfl rfl (OpV.app1 (bytes := 40) (news := leafL (((outL i ls).getD k leaf0))) Try.underlying43 Try.elem84 rfl rfl (Has.blk (cs := leafL (((outL i ls).getD k leaf0))) (Has.at 0 rfl)) (by rw [leafL_length]) (leafL_one _) (by simp only [maxLen]; omega) (by (try dsimp only); omega) (fun O2 d2 => ⟨Sub.nil _, ?_⟩))
        refine D.qX (k := 9) rfl (by kernel_rfl) (by kernel_rfl) (by kernel_rfl) rfl rfl (Qt.field Try.underlying45 rfl Try.cells43 rfl) ?_
        refine D.opN (k := 10) (Sub.nil _) rfl (by kernel_rfl) (by kernel_rfl) rfl (OpV.storeC2 rfl (by conv => lhs; whnf) Try.cells43 rfl rfl (Nat.le_of_ble_eq_true rfl) ⟨Sub.nil _, ?_⟩)
        refine D.done (Sub.nil _) (by kernel_rfl) ?_
        refine TC.region ?_
        refine S.q rfl rfl (Qt.move (by conv => lhs; whnf)) ?_
        refine S.q rfl rfl (Qt.add (b := 1) rfl rfl (by simp only [kmax]; omega)) ?_
        refine S.q rfl rfl (Qt.assign (by conv => lhs; whnf)) ?_
        refine S.nil ?_
        refine ⟨(k + 1, out ++ [((outL i ls).getD k leaf0)], false, O2, d2), ?_, ?_, ⟨?_, (List.forall_mem_cons.2 ⟨rfl, (List.forall_mem_cons.2 ⟨rfl, (fun _ h => nomatch h)⟩)⟩)⟩, (by dsimp only; simp only [len_snoc, flat_snoc]; exact Sub.trans (Sub.keep _ (Sub.keep _ (Sub.keep _ (Sub.keep _ (Sub.keep _ (Sub.keep _ (Sub.keep _ (Sub.drop _ (Sub.nil []))))))))) (Sub.trans (Sub.keep _ (Sub.trans (Sub.keep _ (Sub.trans (Sub.keep _ (Sub.trans (Sub.keep _ (Sub.trans (Sub.keep _ (Sub.trans (Sub.keep _ (Sub.trans (Sub.keep _ (Sub.refl _)) (Sub.of_perm (List.perm_middle (l₁ := [_]))))) (Sub.of_perm (List.perm_middle (l₁ := [_]))))) (Sub.of_perm (List.perm_middle (l₁ := [_]))))) (Sub.of_perm (List.perm_middle (l₁ := [_]))))) (Sub.of_perm (List.perm_middle (l₁ := [_]))))) (Sub.of_perm (List.perm_middle (l₁ := [_]))))) (Sub.of_perm (List.perm_middle (l₁ := [_])))))⟩
        · exact ⟨by show _ ≤ _; dsimp only; omega, hq.keep (fun e => by cases e) hru h21 (outL_mem (getD_mem leaf0 h21)).2 (fun _ => by have hne : ((outL i ls).getD k leaf0).1 ≠ i := (outL_mem (getD_mem leaf0 h21)).2; omega)⟩
        · show _ < _; dsimp only; omega
        repeat (first | exact Out.refl _ _ | refine Out.put rfl ?_ | refine Out.puts rfl ?_ | refine Out.scr ?_ | refine Out.scr' rfl ?_)
    · refine S.q rfl rfl (Qt.move rfl) ?_
      refine S.q rfl rfl (Qt.not_t rfl) ?_
      refine S.q rfl rfl (Qt.move (by conv => lhs; whnf)) ?_
      refine S.pass rfl rfl ?_
      refine S.pass rfl rfl ?_
      refine S.pass rfl rfl ?_
      refine S.pass rfl rfl ?_
      refine S.pass rfl rfl ?_
      refine S.pass rfl rfl ?_
      refine S.pass rfl rfl ?_
      refine S.pass rfl rfl ?_
      refine S.q rfl rfl (Qt.pick_f rfl (by conv => lhs; whnf)) ?_
      refine S.nil ?_
      refine S.if_f rfl ?_
      refine TC.skip ?_
      refine S.draw ([8, 10], [7]) Try.mixed (Sub.nil _) ?_
      refine D.qX (k := 0) rfl (by kernel_rfl) (by kernel_rfl) (by kernel_rfl) rfl rfl (Qt.field Try.underlying45 rfl Try.cells43 rfl) ?_
      refine D.qX (k := 1) rfl (by kernel_rfl) (by kernel_rfl) (by kernel_rfl) rfl rfl (Qt.load rfl (Ld.one (Has.at 1 rfl) Try.one43 (rfl))) ?_
      refine D.qX (k := 2) rfl (by kernel_rfl) (by kernel_rfl) (by kernel_rfl) rfl rfl (Qt.field Try.underlying45 rfl Try.cells43 rfl) ?_
      refine D.qX (k := 3) rfl (by kernel_rfl) (by kernel_rfl) (by kernel_rfl) rfl rfl (Qt.load rfl (Ld.one (Has.at 2 rfl) Try.one43 (rfl))) ?_
      refine D.qX (k := 4) rfl (by kernel_rfl) (by kernel_rfl) (by kernel_rfl) rfl rfl (Qt.move (by conv => lhs; whnf)) ?_
      refine D.qX (k := 5) rfl (by kernel_rfl) (by kernel_rfl) (by kernel_rfl) rfl rfl (Qt.index Try.underlying43 Try.cells84 rfl rfl (by omega) (Has.own (Has.at 6 rfl)) (by rw [leafL_len]; omega)) ?_
      refine D.qX (k := 6) rfl (by kernel_rfl) (by kernel_rfl) (by kernel_rfl) rfl rfl (Qt.load rfl (Ld.slr (vs := leafL (((outL i ls).getD k leaf0))) (Has.own (Has.at 6 rfl)) Try.row84 (by rw [leafL_length]; exact Try.cells84) (by rw [leafL_length]; decide) (leaf_at (by omega)))) ?_
      refine D.nS (k := 7) (Sub.nil _) rfl (by kernel_rfl) (by kernel_rfl) rfl rfl (OpV.slice1 (bytes := 40) (v := .agg (leafL (((outL i ls).getD k leaf0))).toArray) Try.underlying43 Try.elem84 (by decide) rfl (leafL_vl _) (fun g51 => ⟨Sub.drop _ (Sub.keep _ (Sub.keep _ (Sub.keep _ (Sub.keep _ (Sub.keep _ (Sub.keep _ (Sub.keep _ (Sub.nil [])))))))), ?_⟩))
      refine D.opS (k := 8) (Sub.nil _) rfl (by kernel_rfl) (by kernel_rfl) rfl rfl (OpV.app1 (bytes := 40) (news := leafL (((outL i ls).getD k leaf0))) Try.underlying43 Try.elem84 rfl rfl (Has.blk (cs := leafL (((outL i ls).getD k leaf0))) (Has.at 0 rfl)) (by rw [leafL_length]) (leafL_one _) (by simp only [maxLen]; omega) (by (try dsimp only); omega) (fun O2 d2 => ⟨Sub.nil _, ?_⟩))
      refine D.qX (k := 9) rfl (by kernel_rfl) (by kernel_rfl) (by kernel_rfl) rfl rfl (Qt.field Try.underlying45 rfl Try.cells43 rfl) ?_
      refine D.opN (k := 10) (Sub.nil _) rfl (by kernel_rfl) (by kernel_rfl) rfl (OpV.storeC2 rfl (by conv => lhs; whnf) Try.cells43 rfl rfl (Nat.le_of_ble_eq_true rfl) ⟨Sub.nil _, ?_⟩)
      refine D.done (Sub.nil _) (by kernel_rfl) ?_
      refine TC.region ?_
      refine S.q rfl rfl (Qt.move (by conv => lhs; whnf)) ?_
      refine S.q rfl rfl (Qt.add (b := 1) rfl rfl (by simp only [kmax]; omega)) ?_
      refine S.q rfl rfl (Qt.assign (by conv => lhs; whnf)) ?_
      refine S.nil ?_
      refine ⟨(k + 1, out ++ [((outL i ls).getD k leaf0)], true, O2, d2), ?_, ?_, ⟨?_, (List.forall_mem_cons.2 ⟨rfl, (List.forall_mem_cons.2 ⟨rfl, (fun _ h => nomatch h)⟩)⟩)⟩, (by dsimp only; simp only [len_snoc, flat_snoc]; exact Sub.trans (Sub.keep _ (Sub.keep _ (Sub.keep _ (Sub.keep _ (Sub.keep _ (Sub.keep _ (Sub.keep _ (Sub.drop _ (Sub.nil []))))))))) (Sub.trans (Sub.keep _ (Sub.trans (Sub.keep _ (Sub.trans (Sub.keep _ (Sub.trans (Sub.keep _ (Sub.trans (Sub.keep _ (Sub.trans (Sub.keep _ (Sub.trans (Sub.keep _ (Sub.refl _)) (Sub.of_perm (List.perm_middle (l₁ := [_]))))) (Sub.of_perm (List.perm_middle (l₁ := [_]))))) (Sub.of_perm (List.perm_middle (l₁ := [_]))))) (Sub.of_perm (List.perm_middle (l₁ := [_]))))) (Sub.of_perm (List.perm_middle (l₁ := [_]))))) (Sub.of_perm (List.perm_middle (l₁ := [_]))))) (Sub.of_perm (List.perm_middle (l₁ := [_])))))⟩
      · exact ⟨by show _ ≤ _; dsimp only; omega, hq.keep (fun e => by cases e) hru h21 (outL_mem (getD_mem leaf0 h21)).2 (fun e => by cases e)⟩
      · show _ < _; dsimp only; omega
      repeat (first | exact Out.refl _ _ | refine Out.put rfl ?_ | refine Out.puts rfl ?_ | refine Out.scr ?_ | refine Out.scr' rfl ?_)
  · refine S.nil ?_
    refine S.if_f rfl ?_
    refine TC.exit ?_
    refine TC.seq ?_
    refine TC.seq ?_
    refine TC.region ?_
    cases dn
    · refine S.q rfl rfl (Qt.move rfl) ?_
      refine S.q rfl rfl (Qt.not_f rfl) ?_
      refine S.nil ?_
      refine S.if_t rfl ?_
      refine TC.region ?_
      refine S.q rfl rfl (Qt.field Try.underlying45 rfl Try.cells43 rfl) ?_
      refine S.q rfl rfl (Qt.load rfl (Ld.one (Has.at 1 rfl) Try.one43 (rfl))) ?_
      refine S.q rfl rfl (Qt.move (by conv => lhs; whnf)) ?_
      refine S.q rfl rfl (Qt.load rfl (Ld.all (vs := hvl (h)) (Has.at 4 rfl) Try.row58 (by rw [hvl_length]; exact Try.cells58))) ?_
      refine S.q rfl rfl (Qt.as (Qt.buildS (vs := [.int .u64 (i : Int), hv h]) (pls := #[(0, 1), (1, 32)]) Try.underlying84 (fun w => by kernel_rfl) Try.zero84 rfl ⟨rfl, (by show some (1, 32) = some (1, _); rw [hv_len]), trivial⟩ (by rw [List.flatMap_cons, List.flatMap_singleton]; show 33 = ([Value.int .u64 (i : Int)] ++ vl (hv h)).length; rw [List.length_append, hv_len]; rfl)) (show _ = Value.agg (leafL (i, h)).toArray by rw [List.flatMap_cons, List.flatMap_singleton, vl_hv]; rfl)) ?_
      refine S.opS rfl rfl (OpV.slice1 (bytes := 40) (v := .agg (leafL ((i, h))).toArray) Try.underlying43 Try.elem84 (by decide) rfl (leafL_vl _) (fun g61 => ?_))
      refine S.opS rfl rfl (OpV.app1 (bytes := 40) (news := leafL ((i, h))) Try.underlying43 Try.elem84 rfl rfl (Has.blk (cs := leafL ((i, h))) (Has.at 0 rfl)) (by rw [leafL_length]) (leafL_one _) (by simp only [maxLen]; omega) (by (try dsimp only); omega) (fun O1 d1 => ?_))
      refine S.q rfl rfl (Qt.field Try.underlying45 rfl Try.cells43 rfl) ?_
      refine S.opN rfl (OpV.storeC2 rfl (by conv => lhs; whnf) Try.cells43 rfl rfl (Nat.le_of_ble_eq_true rfl) ?_)
      refine S.nil ?_
      refine TC.seq ?_
      refine TC.region ?_
      refine S.q rfl rfl (Qt.load rfl (Ld.all (Has.at 2 rfl) Try.row45 (Try.cells45))) ?_
      refine S.opN rfl (OpV.storeV4 rfl (by conv => lhs; whnf) (by exact Try.cells45) (by rfl) (by rfl) ?_)
      refine S.nil ?_
      refine TC.ret ?_
      refine finQ.ret (RVs.cell rfl (Ld.all (Has.at 4 rfl) Try.row45 (Try.cells45)) RVs.nil) (Sub.trans (Sub.keep _ (Sub.drop _ (Sub.drop _ (Sub.drop _ (Sub.drop _ (Sub.drop _ (Sub.drop _ (Sub.drop _ (Sub.nil []))))))))) (Sub.trans (Sub.keep _ (Sub.refl _)) (Sub.of_perm (List.perm_middle (l₁ := [_]))))) ?_
      have e := hq.endW2 (by omega)
      rw [← e]
      exact ⟨O1, d1, by rw [len_snoc]; rfl, by rw [len_snoc, flat_snoc]⟩
    · refine S.q rfl rfl (Qt.move rfl) ?_
      refine S.q rfl rfl (Qt.not_t rfl) ?_
      refine S.nil ?_
      refine S.if_f rfl ?_
      refine TC.skip ?_
      refine TC.seq ?_
      refine TC.region ?_
      refine S.q rfl rfl (Qt.load rfl (Ld.all (Has.at 1 rfl) Try.row45 (Try.cells45))) ?_
      refine S.opN rfl (OpV.storeV3 rfl (by conv => lhs; whnf) (by exact Try.cells45) (by rfl) (by rfl) ?_)
      refine S.nil ?_
      refine TC.ret ?_
      refine finQ.ret (RVs.cell rfl (Ld.all (Has.at 3 rfl) Try.row45 (Try.cells45)) RVs.nil) (Sub.keep _ (Sub.drop _ (Sub.drop _ (Sub.drop _ (Sub.drop _ (Sub.drop _ (Sub.drop _ (Sub.nil [])))))))) ?_
      have e := hq.endW (by omega)
      subst e
      exact ⟨A1, c1, rfl, rfl⟩
set_option maxHeartbeats 400000 in
theorem get45_walk (n : Nat) (ls : Ls) (Al : Option Addr) (cl : Nat) (i : Nat) (w0 : World) (hlen : ls.length ≤ 200000) (hL : Ro w0 [] (SlA Al (ls.flatMap leafL))) :
    Calls Try.prog 45 #[.agg #[.int .u64 (n : Int), .slice Al ls.length cl], .int .u64 (i : Int)] w0 (Post w0 [] fun v L => v = hv (getD' ls i) ∧ L = []) := by
  refine Calls.of (L := []) (n := 28) (rs := [.cell 4 58]) Try.func45 rfl rfl rfl (Nat.le_of_ble_eq_true rfl) (Sat.nil _) ?_
  refine TC.seq ?_
  refine TC.region ?_
  refine S.opS rfl rfl (OpV.box (v := .agg #[.int .u64 (n : Int), .slice Al ls.length cl]) rfl (fun b2 => ?_))
  refine S.opS rfl rfl (OpV.alloc Try.zero58 (fun b4 => ?_))
  refine S.nil ?_
  refine TC.seq ?_
  refine TC.seq ?_
  refine TC.region ?_
  refine S.q rfl rfl (Qt.assign (by conv => lhs; whnf)) ?_
  refine S.nil ?_
  refine TC.block ?_
  refine TC.loop (γ := Nat) [6, 7, 8, 9, 10, 13, 14, 15, 16, 17, 18, 19, 20, 21, 22, 23, 24, 25, 26, 11, 12, 5] (fun k => [(5, .int .i64 (k : Int))]) (fun _ => _) (fun k => k ≤ ls.length ∧ ∀ j, j < k → (ls.getD j leaf0).1 ≠ i) (fun k => ls.length - k) (0)
    ⟨Nat.zero_le _, fun j h => absurd h (Nat.not_lt_zero _)⟩ ⟨Out.refl _ _, (List.forall_mem_cons.2 ⟨rfl, (fun _ h => nomatch h)⟩)⟩ (Sub.refl _) ?_
  rintro k u ⟨hk, hq⟩
  refine TC.seq ?_
  refine TC.seq ?_
  refine TC.region ?_
  refine S.q rfl rfl (Qt.move (by conv => lhs; whnf)) ?_
  refine S.q rfl rfl (Qt.field Try.underlying45 rfl Try.cells43 rfl) ?_
  refine S.q rfl rfl (Qt.load rfl (Ld.one (Has.at 1 rfl) Try.one43 (rfl))) ?_
  refine S.q rfl rfl (Qt.len_slice Try.underlying43 rfl) ?_
  refine S.dec rfl rfl (Qt.lt rfl rfl) (fun h10 => ?_) (fun h10 => ?_)
  · refine S.nil ?_
    refine S.if_t rfl ?_
    refine TC.skip ?_
    refine TC.seq ?_
    refine TC.block ?_
    refine TC.seq ?_
    refine TC.region ?_
    refine S.q rfl rfl (Qt.field Try.underlying45 rfl Try.cells43 rfl) ?_
    refine S.q rfl rfl (Qt.load rfl (Ld.one (Has.at 1 rfl) Try.one43 (rfl))) ?_
    refine S.q rfl rfl (Qt.move (by conv => lhs; whnf)) ?_
    refine S.q rfl rfl (Qt.index Try.underlying43 Try.cells84 rfl rfl (by omega) (Has.ro hL) (by rw [leafL_len]; omega)) ?_
    refine S.q rfl rfl (Qt.fieldS Try.underlying84 rfl Try.cells24 rfl (Has.ro hL) (by rw [leafL_len]; omega)) ?_
    refine S.q rfl rfl (Qt.load rfl (Ld.sl (v := .int .u64 (((ls.getD k leaf0)).1 : Int)) (Has.ro hL) Try.one24 (leaf_at (by omega) 0 _ rfl))) ?_
    refine S.q rfl rfl (Qt.move (by conv => lhs; whnf)) ?_
    refine S.dec rfl rfl (Qt.eq rfl rfl) (fun h20 => ?_) (fun h20 => ?_)
    · refine S.nil ?_
      refine S.if_t rfl ?_
      refine TC.seq ?_
      refine TC.region ?_
      refine S.q rfl rfl (Qt.field Try.underlying45 rfl Try.cells43 rfl) ?_
      refine S.q rfl rfl (Qt.load rfl (Ld.one (Has.at 1 rfl) Try.one43 (rfl))) ?_
      refine S.q rfl rfl (Qt.move (by conv => lhs; whnf)) ?_
      refine S.q rfl rfl (Qt.index Try.underlying43 Try.cells84 rfl rfl (by omega) (Has.ro hL) (by rw [leafL_len]; omega)) ?_
      refine S.q rfl rfl (Qt.fieldS Try.underlying84 rfl Try.cells58 rfl (Has.ro hL) (by rw [leafL_len]; omega)) ?_
      refine S.q rfl rfl (Qt.load rfl (Ld.slr (vs := hvl ((ls.getD k leaf0)).2) (Has.ro hL) Try.row58 (by rw [hvl_length]; exact Try.cells58) (by rw [hvl_length]; decide) (fun j v hj => by have := leaf_at (k := k) (by omega) (1 + j) v (leafL_hash _ j v hj); rw [← Nat.add_assoc] at this; exact this))) ?_
      refine S.opN rfl (OpV.storeV0 (v := hv (_)) rfl rfl (hv_size Try.cells58) (hv_all _) (by rw [hv_len]; rfl) ?_)
      refine S.nil ?_
      refine TC.ret ?_
      refine finQ.ret (RVs.cell rfl (Ld.all (Has.at 0 rfl) Try.row58 (hv_size Try.cells58)) RVs.nil) (Sub.nil _) ?_
      exact ⟨by rw [getD', look_first h10 hq h20]; rfl, rfl⟩
    · refine S.nil ?_
      refine S.if_f rfl ?_
      refine TC.skip ?_
      refine TC.region ?_
      refine S.q rfl rfl (Qt.move (by conv => lhs; whnf)) ?_
      refine S.q rfl rfl (Qt.add (b := 1) rfl rfl (by simp only [kmax]; omega)) ?_
      refine S.q rfl rfl (Qt.assign (by conv => lhs; whnf)) ?_
      refine S.nil ?_
      refine ⟨k + 1, ?_, ?_, ⟨?_, (List.forall_mem_cons.2 ⟨rfl, (fun _ h => nomatch h)⟩)⟩, Sub.refl _⟩
      · exact ⟨by show _ ≤ _; omega, fun j hj => (Nat.lt_or_ge j k).elim (hq j) (fun h => by (obtain rfl : j = k := by omega); exact h20)⟩
      · show _ < _; dsimp only; omega
      repeat (first | exact Out.refl _ _ | refine Out.put rfl ?_ | refine Out.puts rfl ?_ | refine Out.scr ?_ | refine Out.scr' rfl ?_)
  · refine S.nil ?_
    refine S.if_f rfl ?_
    refine TC.exit ?_
    refine TC.seq ?_
    refine TC.region ?_
    refine S.q rfl rfl (Qt.build (v := hv zeroH) rfl (fun _ => by kernel_rfl)) ?_
    refine S.opN rfl (OpV.storeV0 (v := hv (_)) rfl rfl (hv_size Try.cells58) (hv_all _) (by rw [hv_len]; rfl) ?_)
    refine S.nil ?_
    refine TC.ret ?_
    refine finQ.ret (RVs.cell rfl (Ld.all (Has.at 0 rfl) Try.row58 (hv_size Try.cells58)) RVs.nil) (Sub.nil _) ?_
    exact ⟨by rw [getD', look_none_of (fun j hj => hq j (by omega))]; rfl, rfl⟩
end Go.Proofs.Ytaoicbjgkghnnaa
namespace Go.Proofs.Ytaoicbjgkghnnaa
open Go.E
set_option linter.unusedVariables false
set_option maxRecDepth 4000
theorem Try.ent10 : Enters Try.prog 10 := ⟨_, Try.func10, by kernel_rfl, rfl⟩
theorem Try.ent12 : Enters Try.prog 12 := ⟨_, Try.func12, by kernel_rfl, rfl⟩
theorem Try.ent43 : Enters Try.prog 43 := ⟨_, Try.func43, by kernel_rfl, rfl⟩
theorem Try.ent45 : Enters Try.prog 45 := ⟨_, Try.func45, by kernel_rfl, rfl⟩
theorem sub_rot (a b c : Assn) (X : List Assn) : Sub [b, c, a] (a :: b :: c :: X) := ⟨X, by have h : List.Perm (a :: b :: c :: X) (b :: c :: a :: X) := (List.perm_middle (l₁ := [b, c]) (l₂ := X) (a := a)).symm; exact h⟩
theorem layL_rise (xs : List Nat) (bs : List H32) : ∀ (k : Nat) {ls : Ls}, ls.Pairwise (fun a b => a.1 < b.1) → k ≤ xs.length → k ≤ bs.length → (layL ls (xs.take k) (bs.take k)).Pairwise (fun a b => a.1 < b.1)
  | 0, ls, h, _, _ => by simpa [layL] using h
  | k + 1, ls, h, h1, h2 => by
    rw [layL_take ls xs bs k (by omega) (by omega)]
    exact withL_rise (layL_rise xs bs k h (by omega) (by omega))
theorem span0_of {first n : Nat} {many : Int} (h : spanned first many n = 0) : ¬ 256 < many ∧ ¬ many < 1 ∧ ¬ n ≤ first ∧ ¬ n - first < many.toNat := by
  unfold spanned at h
  split at h
  · cases h
  · split at h
    · cases h
    · split at h
      · cases h
      · rename_i a b c; exact ⟨a, b, fun q => c (.inl q), fun q => c (.inr q)⟩
theorem loL_step (q : Nat) (ls : Ls) {k : Nat} (h : k < ls.length) : loL q (ls.take (k + 1)) = if (ls.getD k leaf0).1 < q then loL q (ls.take k) ++ [ls.getD k leaf0] else loL q (ls.take k) := by
  rw [take_one h]; unfold loL; rw [List.filter_append]
  generalize ls.getD k leaf0 = x
  by_cases hb : x.1 < q <;> simp [hb]
theorem loL_len (q : Nat) (ls : Ls) : (loL q ls).length ≤ ls.length := List.length_filter_le ..
theorem loL_len' (q : Nat) (ls : Ls) (k : Nat) (h : k ≤ ls.length) : (loL q (ls.take k)).length ≤ k := by
  have h1 := loL_len q (ls.take k)
  rw [List.length_take] at h1; omega
set_option maxHeartbeats 1600000 in
theorem rwrite_walk (n : Nat) (ls : Ls) (Al : Option Addr) (cl : Nat) (A : Option Addr) (c : Nat) (xs : List Nat) (hc : xs.length ≤ c) (hm : c ≤ 9223372036854775807) (B : Option Addr) (d : Nat) (bs : List H32) (hr : ls.Pairwise (fun a b => a.1 < b.1)) (w0 : World) (hlen : ls.length ≤ 100000) (hL : Ro w0 [] (SlA Al (ls.flatMap leafL))) (hR : Ro w0 [] (SlA A (u64s xs))) (hB : Ro w0 [] (SlA B (hcs bs))) :
    Calls Try.prog 31 #[.agg #[.int .u64 (n : Int), .slice Al ls.length cl], .slice A xs.length c, .slice B bs.length d] w0 (Post w0 [] fun v L => ∃ A2 c2, v = .tuple #[.agg #[.int .u64 (n : Int), .slice A2 (writeD n ls xs bs).2.length c2], .int .i64 (((writeD n ls xs bs).1 : Nat) : Int)] ∧ Held Al cl ls A2 c2 (writeD n ls xs bs).2 L) := by
  refine Calls.of (L := []) (n := 41) (rs := [.cell 6 45, .tmp 7]) Try.func31 rfl rfl rfl (Nat.le_of_ble_eq_true rfl) (Sat.nil _) ?_
  refine TC.seq ?_
  refine TC.region ?_
  refine S.opS rfl rfl (OpV.box (v := .agg #[.int .u64 (n : Int), .slice Al ls.length cl]) rfl (fun b3 => ?_))
  refine S.opS rfl rfl (OpV.alloc Try.zero45 (fun b6 => ?_))
  refine S.q rfl rfl (Qt.assign (by conv => lhs; whnf)) ?_
  refine S.nil ?_
  refine TC.seq ?_
  refine TC.seq ?_
  refine TC.region ?_
  refine S.q rfl rfl (Qt.move (by conv => lhs; whnf)) ?_
  refine S.q rfl rfl (Qt.field Try.underlying45 rfl Try.cells24 rfl) ?_
  refine S.q rfl rfl (Qt.load rfl (Ld.one (v := .int .u64 (n : Int)) (Has.at 1 rfl) Try.one24 rfl)) ?_
  refine S.opS rfl rfl (OpV.con0 Try.ent10 rfl (fun w hw => Calls.ret (refAsked_walk A c xs n w (Rd.ro hR w hw) hc hm)) ?_)
  refine S.q rfl rfl (Qt.assign (by conv => lhs; whnf)) ?_
  refine S.nil ?_
  refine TC.seq ?_
  refine TC.region ?_
  refine S.q rfl rfl (Qt.move (by conv => lhs; whnf)) ?_
  refine S.dec rfl rfl (Qt.ne (b := 0) rfl rfl) (fun h15 => ?_) (fun h15 => ?_)
  · refine S.nil ?_
    refine S.if_t rfl ?_
    refine TC.seq ?_
    refine TC.region ?_
    refine S.q rfl rfl (Qt.load rfl (Ld.all (vs := vl (.agg #[.int .u64 (n : Int), .slice Al ls.length cl])) (Has.at 1 rfl) Try.row45 Try.cells45)) ?_
    refine S.q rfl rfl (Qt.move (by conv => lhs; whnf)) ?_
    refine S.opN rfl (OpV.storeV0 rfl (by conv => lhs; whnf) (by exact Try.cells45) (by rfl) (by rfl) ?_)
    refine S.q rfl rfl (Qt.assign (by conv => lhs; whnf)) ?_
    refine S.nil ?_
    refine TC.ret ?_
    refine finQ.ret (RVs.cell rfl (Ld.all (Has.at 0 rfl) Try.row45 (Try.cells45)) (RVs.tmp (by conv => lhs; whnf) RVs.nil)) (Sub.nil _) ?_
    rw [writeD, if_pos h15]
    exact ⟨Al, cl, rfl, .inl ⟨rfl, rfl, rfl, rfl⟩⟩
  · refine S.nil ?_
    refine S.if_f rfl ?_
    refine TC.skip ?_
    refine TC.seq ?_
    refine TC.seq ?_
    refine TC.region ?_
    refine S.q rfl rfl (Qt.move (by conv => lhs; whnf)) ?_
    refine S.q rfl rfl (Qt.len_slice Try.underlying22 rfl) ?_
    refine S.q rfl rfl (Qt.move (by conv => lhs; whnf)) ?_
    refine S.q rfl rfl (Qt.len_slice Try.underlying23 rfl) ?_
    refine S.dec rfl rfl (Qt.ne rfl rfl) (fun h22 => ?_) (fun h22 => ?_)
    · refine S.nil ?_
      refine S.if_t rfl ?_
      refine TC.seq ?_
      refine TC.region ?_
      refine S.q rfl rfl (Qt.load rfl (Ld.all (vs := vl (.agg #[.int .u64 (n : Int), .slice Al ls.length cl])) (Has.at 1 rfl) Try.row45 Try.cells45)) ?_
      refine S.opN rfl (OpV.storeV0 rfl (by conv => lhs; whnf) (by exact Try.cells45) (by rfl) (by rfl) ?_)
      refine S.q rfl rfl (Qt.assign (by conv => lhs; whnf)) ?_
      refine S.nil ?_
      refine TC.ret ?_
      refine finQ.ret (RVs.cell rfl (Ld.all (Has.at 0 rfl) Try.row45 (Try.cells45)) (RVs.tmp (by conv => lhs; whnf) RVs.nil)) (Sub.nil _) ?_
      rw [writeD, if_neg h15, if_pos h22]
      exact ⟨Al, cl, rfl, .inl ⟨rfl, rfl, rfl, rfl⟩⟩
    · refine S.nil ?_
      refine S.if_f rfl ?_
      refine TC.skip ?_
      refine TC.seq ?_
      refine TC.seq ?_
      refine TC.region ?_
      refine S.q rfl rfl (Qt.assign (by conv => lhs; whnf)) ?_
      refine S.nil ?_
      refine TC.block ?_
      refine TC.loop (γ := Nat × Option Addr × Nat × List Assn) [24, 25, 26, 27, 30, 31, 32, 33, 34, 35, 36, 37, 38, 39, 28, 29, 9] (fun g => [(9, .int .i64 ((g.1 : Nat) : Int))]) (fun g => Blk b6 45 [.int .u64 0, .slice none 0 0] :: Blk b3 45 (vl (.agg #[.int .u64 (n : Int), .slice g.2.1 (layL ls (xs.take g.1) (bs.take g.1)).length g.2.2.1])) :: g.2.2.2) (fun g => g.1 ≤ xs.length ∧ (∀ w, St w0 [] (Blk b6 45 [.int .u64 0, .slice none 0 0] :: Blk b3 45 (vl (.agg #[.int .u64 (n : Int), .slice g.2.1 (layL ls (xs.take g.1) (bs.take g.1)).length g.2.2.1])) :: g.2.2.2) w → Ro w [] (SlA g.2.1 ((layL ls (xs.take g.1) (bs.take g.1)).flatMap leafL))) ∧ ((g.1 = 0 ∧ g.2.2.2 = [] ∧ g.2.1 = Al ∧ g.2.2.1 = cl) ∨ g.2.2.2 = [OwnA 84 33 g.2.1 (layL ls (xs.take g.1) (bs.take g.1)).length g.2.2.1 ((layL ls (xs.take g.1) (bs.take g.1)).flatMap leafL)])) (fun g => xs.length - g.1) ((0, Al, cl, []))
        ⟨Nat.zero_le _, fun w hw => hL.go hw (fun b hb => by cases hb), .inl ⟨rfl, rfl, rfl, rfl⟩⟩ ⟨Out.refl _ _, (List.forall_mem_cons.2 ⟨rfl, (fun _ h => nomatch h)⟩)⟩ (Sub.refl _) ?_
      rintro ⟨k, A1, c1, Z⟩ u ⟨hk, hrd, hfo⟩
      dsimp only at hk hrd hfo
      show TC _ _ _ (puts [(9, .int .i64 (k : Int))] (scr _ u _)) (Blk b6 45 [.int .u64 0, .slice none 0 0] :: Blk b3 45 (vl (.agg #[.int .u64 (n : Int), .slice A1 (layL ls (xs.take k) (bs.take k)).length c1])) :: Z)
      refine TC.seq ?_
      refine TC.seq ?_
      refine TC.region ?_
      refine S.q rfl rfl (Qt.move (by conv => lhs; whnf)) ?_
      refine S.q rfl rfl (Qt.move (by conv => lhs; whnf)) ?_
      refine S.q rfl rfl (Qt.len_slice Try.underlying22 rfl) ?_
      refine S.dec rfl rfl (Qt.lt rfl rfl) (fun h27 => ?_) (fun h27 => ?_)
      · refine S.nil ?_
        refine S.if_t rfl ?_
        refine TC.skip ?_
        refine TC.seq ?_
        refine TC.block ?_
        refine S.draw ([10], [9]) Try.mixed (Sub.keep _ (Sub.drop _ (Sub.refl _))) ?_
        have h256 := asked_len (Decidable.not_not.1 h15)
        have hcl : (layL ls (xs.take k) (bs.take k)).length ≤ 200000 := by have := layL_len xs bs k ls (by omega) (by omega); omega
        have hcr := layL_rise xs bs k hr (by omega) (by omega)
        refine D.qX (k := 0) rfl (by kernel_rfl) (by kernel_rfl) (by kernel_rfl) rfl rfl (Qt.load rfl (Ld.all (vs := vl (.agg #[.int .u64 (n : Int), .slice A1 (layL ls (xs.take k) (bs.take k)).length c1])) (Has.at 1 rfl) Try.row45 Try.cells45)) ?_
        refine D.qX (k := 1) rfl (by kernel_rfl) (by kernel_rfl) (by kernel_rfl) rfl rfl (Qt.move (by conv => lhs; whnf)) ?_
        refine D.qX (k := 2) rfl (by kernel_rfl) (by kernel_rfl) (by kernel_rfl) rfl rfl (Qt.move (by conv => lhs; whnf)) ?_
        refine D.qX (k := 3) rfl (by kernel_rfl) (by kernel_rfl) (by kernel_rfl) rfl rfl (Qt.index Try.underlying22 Try.cells24 rfl rfl (by omega) (Has.ro hR) (by rw [u64s_len]; omega)) ?_
        refine D.qX (k := 4) rfl (by kernel_rfl) (by kernel_rfl) (by kernel_rfl) rfl rfl (Qt.load rfl (Ld.sl (v := .int .u64 ((xs.getD k 0 : Nat) : Int)) (Has.ro hR) Try.one24 (u64s_get (by omega) (Nat.mul_one _)))) ?_
        refine D.qX (k := 5) rfl (by kernel_rfl) (by kernel_rfl) (by kernel_rfl) rfl rfl (Qt.move (by conv => lhs; whnf)) ?_
        refine D.qX (k := 6) rfl (by kernel_rfl) (by kernel_rfl) (by kernel_rfl) rfl rfl (Qt.move (by conv => lhs; whnf)) ?_
        refine D.qX (k := 7) rfl (by kernel_rfl) (by kernel_rfl) (by kernel_rfl) rfl rfl (Qt.index Try.underlying23 Try.cells58 rfl rfl (by omega) (Has.ro hB) (by rw [hcs_length]; omega)) ?_
        refine D.qX (k := 8) rfl (by kernel_rfl) (by kernel_rfl) (by kernel_rfl) rfl rfl (Qt.load rfl (Ld.slr (Has.ro hB) Try.row58 (by rw [hvl_length]; exact Try.cells58) (by rw [hvl_length]; exact Nat.succ_pos _) (hcs_at (by omega) rfl))) ?_
        refine D.nS (k := 9) (Sub.keep _ (Sub.drop _ (Sub.refl _))) rfl (by kernel_rfl) (by kernel_rfl) rfl rfl (OpV.con (Pre := []) (R := _) Try.ent43 rfl (List.Perm.refl _) (fun w hw => with_walk n (layL ls (xs.take k) (bs.take k)) A1 c1 (xs.getD k 0) (bs.getD k zeroH) hcr w hcl (hrd w hw)) ?_)
        rintro v L' ⟨A2, c2, rfl, rfl⟩
        refine ⟨Sub.drop _ (Sub.keep _ (Sub.keep _ (Sub.refl _))), ?_⟩
        rw [← layL_take ls xs bs k h27 (by omega)]
        refine D.opN (k := 10) (Sub.drop _ (Sub.keep _ (Sub.drop _ (Sub.refl _)))) rfl (by kernel_rfl) (by kernel_rfl) rfl (OpV.storeV2 rfl (by conv => lhs; whnf) (by exact Try.cells45) (by rfl) (by rfl) ⟨Sub.drop _ (Sub.keep _ (Sub.drop _ (Sub.refl _))), ?_⟩)
        refine D.done (Sub.drop _ (Sub.keep _ (Sub.drop _ (Sub.refl _)))) (by kernel_rfl) ?_
        refine TC.region ?_
        refine S.q rfl rfl (Qt.move (by conv => lhs; whnf)) ?_
        refine S.q rfl rfl (Qt.add (b := 1) rfl rfl (by simp only [kmax]; omega)) ?_
        refine S.q rfl rfl (Qt.assign (by conv => lhs; whnf)) ?_
        refine S.nil ?_
        refine ⟨(k + 1, A2, c2, [OwnA 84 33 A2 (layL ls (xs.take (k + 1)) (bs.take (k + 1))).length c2 ((layL ls (xs.take (k + 1)) (bs.take (k + 1))).flatMap leafL)]), ?_, ?_, ⟨?_, (List.forall_mem_cons.2 ⟨rfl, (fun _ h => nomatch h)⟩)⟩, (by dsimp only; exact sub_rot _ _ _ _)⟩
        · exact ⟨by show _ ≤ _; dsimp only; omega, fun w hw => rd_own hw 2 rfl, .inr rfl⟩
        · show _ < _; dsimp only; omega
        repeat (first | exact Out.refl _ _ | refine Out.put rfl ?_ | refine Out.puts rfl ?_ | refine Out.scr ?_ | refine Out.scr' rfl ?_)
      · refine S.nil ?_
        refine S.if_f rfl ?_
        refine TC.exit ?_
        refine TC.seq ?_
        refine TC.region ?_
        refine S.q rfl rfl (Qt.load rfl (Ld.all (vs := vl (.agg #[.int .u64 (n : Int), .slice A1 (layL ls (xs.take k) (bs.take k)).length c1])) (Has.at 1 rfl) Try.row45 Try.cells45)) ?_
        refine S.opN rfl (OpV.storeV0 rfl (by conv => lhs; whnf) (by exact Try.cells45) (by rfl) (by rfl) ?_)
        refine S.q rfl rfl (Qt.assign (by conv => lhs; whnf)) ?_
        refine S.nil ?_
        refine TC.ret ?_
        refine finQ.ret (RVs.cell rfl (Ld.all (Has.at 0 rfl) Try.row45 (Try.cells45)) (RVs.tmp (by conv => lhs; whnf) RVs.nil)) (Sub.drop _ (Sub.drop _ (Sub.refl _))) ?_
        rw [writeD, if_neg h15, if_neg h22]
        obtain rfl : k = xs.length := by omega
        rcases hfo with ⟨h0, _⟩ | rfl
        · have := (asked_len (Decidable.not_not.1 h15)).1; omega
        · have e := layL_all ls xs bs xs.length (Nat.le_refl _) (by omega)
          exact ⟨A1, c1, by rw [← e]; rfl, .inr (by rw [← e])⟩
set_option maxHeartbeats 1600000 in
theorem rtrim_walk (n : Nat) (ls : Ls) (Al : Option Addr) (cl : Nat) (A : Option Addr) (c : Nat) (xs : List Nat) (hc : xs.length ≤ c) (hm : c ≤ 9223372036854775807) (w0 : World) (hlen : ls.length ≤ 100000) (hL : Ro w0 [] (SlA Al (ls.flatMap leafL))) (hR : Ro w0 [] (SlA A (u64s xs))) :
    Calls Try.prog 32 #[.agg #[.int .u64 (n : Int), .slice Al ls.length cl], .slice A xs.length c] w0 (Post w0 [] fun v L => ∃ A2 c2, v = .tuple #[.agg #[.int .u64 (n : Int), .slice A2 (trimD n ls xs).2.length c2], .int .i64 (((trimD n ls xs).1 : Nat) : Int)] ∧ Held Al cl ls A2 c2 (trimD n ls xs).2 L) := by
  refine Calls.of (L := []) (n := 29) (rs := [.cell 4 45, .tmp 5]) Try.func32 rfl rfl rfl (Nat.le_of_ble_eq_true rfl) (Sat.nil _) ?_
  refine TC.seq ?_
  refine TC.region ?_
  refine S.opS rfl rfl (OpV.box (v := .agg #[.int .u64 (n : Int), .slice Al ls.length cl]) rfl (fun b2 => ?_))
  refine S.opS rfl rfl (OpV.alloc Try.zero45 (fun b4 => ?_))
  refine S.q rfl rfl (Qt.assign (by conv => lhs; whnf)) ?_
  refine S.nil ?_
  refine TC.seq ?_
  refine TC.seq ?_
  refine TC.region ?_
  refine S.q rfl rfl (Qt.move (by conv => lhs; whnf)) ?_
  refine S.q rfl rfl (Qt.field Try.underlying45 rfl Try.cells24 rfl) ?_
  refine S.q rfl rfl (Qt.load rfl (Ld.one (v := .int .u64 (n : Int)) (Has.at 1 rfl) Try.one24 rfl)) ?_
  refine S.opS rfl rfl (OpV.con0 Try.ent10 rfl (fun w hw => Calls.ret (refAsked_walk A c xs n w (Rd.ro hR w hw) hc hm)) ?_)
  refine S.q rfl rfl (Qt.assign (by conv => lhs; whnf)) ?_
  refine S.nil ?_
  refine TC.seq ?_
  refine TC.region ?_
  refine S.q rfl rfl (Qt.move (by conv => lhs; whnf)) ?_
  refine S.dec rfl rfl (Qt.ne (b := 0) rfl rfl) (fun h13 => ?_) (fun h13 => ?_)
  · refine S.nil ?_
    refine S.if_t rfl ?_
    refine TC.seq ?_
    refine TC.region ?_
    refine S.q rfl rfl (Qt.load rfl (Ld.all (vs := vl (.agg #[.int .u64 (n : Int), .slice Al ls.length cl])) (Has.at 1 rfl) Try.row45 Try.cells45)) ?_
    refine S.q rfl rfl (Qt.move (by conv => lhs; whnf)) ?_
    refine S.opN rfl (OpV.storeV0 rfl (by conv => lhs; whnf) (by exact Try.cells45) (by rfl) (by rfl) ?_)
    refine S.q rfl rfl (Qt.assign (by conv => lhs; whnf)) ?_
    refine S.nil ?_
    refine TC.ret ?_
    refine finQ.ret (RVs.cell rfl (Ld.all (Has.at 0 rfl) Try.row45 (Try.cells45)) (RVs.tmp (by conv => lhs; whnf) RVs.nil)) (Sub.nil _) ?_
    rw [trimD, if_pos h13]
    exact ⟨Al, cl, rfl, .inl ⟨rfl, rfl, rfl, rfl⟩⟩
  · refine S.nil ?_
    refine S.if_f rfl ?_
    refine TC.skip ?_
    refine TC.seq ?_
    refine TC.seq ?_
    refine TC.region ?_
    refine S.q rfl rfl (Qt.assign (by conv => lhs; whnf)) ?_
    refine S.nil ?_
    refine TC.block ?_
    refine TC.loop (γ := Nat × Option Addr × Nat × List Assn) [16, 17, 18, 19, 22, 23, 24, 25, 26, 27, 20, 21, 7] (fun g => [(7, .int .i64 ((g.1 : Nat) : Int))]) (fun g => Blk b4 45 [.int .u64 0, .slice none 0 0] :: Blk b2 45 (vl (.agg #[.int .u64 (n : Int), .slice g.2.1 (cutD ls (xs.take g.1)).length g.2.2.1])) :: g.2.2.2) (fun g => g.1 ≤ xs.length ∧ (∀ w, St w0 [] (Blk b4 45 [.int .u64 0, .slice none 0 0] :: Blk b2 45 (vl (.agg #[.int .u64 (n : Int), .slice g.2.1 (cutD ls (xs.take g.1)).length g.2.2.1])) :: g.2.2.2) w → Ro w [] (SlA g.2.1 ((cutD ls (xs.take g.1)).flatMap leafL))) ∧ ((g.1 = 0 ∧ g.2.2.2 = [] ∧ g.2.1 = Al ∧ g.2.2.1 = cl) ∨ g.2.2.2 = [OwnA 84 33 g.2.1 (cutD ls (xs.take g.1)).length g.2.2.1 ((cutD ls (xs.take g.1)).flatMap leafL)])) (fun g => xs.length - g.1) ((0, Al, cl, []))
      ⟨Nat.zero_le _, fun w hw => hL.go hw (fun b hb => by cases hb), .inl ⟨rfl, rfl, rfl, rfl⟩⟩ ⟨Out.refl _ _, (List.forall_mem_cons.2 ⟨rfl, (fun _ h => nomatch h)⟩)⟩ (Sub.refl _) ?_
    rintro ⟨k, A1, c1, Z⟩ u ⟨hk, hrd, hfo⟩
    dsimp only at hk hrd hfo
    show TC _ _ _ (puts [(7, .int .i64 (k : Int))] (scr _ u _)) (Blk b4 45 [.int .u64 0, .slice none 0 0] :: Blk b2 45 (vl (.agg #[.int .u64 (n : Int), .slice A1 (cutD ls (xs.take k)).length c1])) :: Z)
    refine TC.seq ?_
    refine TC.seq ?_
    refine TC.region ?_
    refine S.q rfl rfl (Qt.move (by conv => lhs; whnf)) ?_
    refine S.q rfl rfl (Qt.move (by conv => lhs; whnf)) ?_
    refine S.q rfl rfl (Qt.len_slice Try.underlying22 rfl) ?_
    refine S.dec rfl rfl (Qt.lt rfl rfl) (fun h19 => ?_) (fun h19 => ?_)
    · refine S.nil ?_
      refine S.if_t rfl ?_
      refine TC.skip ?_
      refine TC.seq ?_
      refine TC.block ?_
      refine S.draw ([6], [5]) Try.mixed (Sub.keep _ (Sub.drop _ (Sub.refl _))) ?_
      have h256 := asked_len (Decidable.not_not.1 h13)
      have hcl : (cutD ls (xs.take k)).length ≤ 200000 := by have := cutD_len xs k ls (by omega); omega
      refine D.qX (k := 0) rfl (by kernel_rfl) (by kernel_rfl) (by kernel_rfl) rfl rfl (Qt.load rfl (Ld.all (vs := vl (.agg #[.int .u64 (n : Int), .slice A1 (cutD ls (xs.take k)).length c1])) (Has.at 1 rfl) Try.row45 Try.cells45)) ?_
      refine D.qX (k := 1) rfl (by kernel_rfl) (by kernel_rfl) (by kernel_rfl) rfl rfl (Qt.move (by conv => lhs; whnf)) ?_
      refine D.qX (k := 2) rfl (by kernel_rfl) (by kernel_rfl) (by kernel_rfl) rfl rfl (Qt.move (by conv => lhs; whnf)) ?_
      refine D.qX (k := 3) rfl (by kernel_rfl) (by kernel_rfl) (by kernel_rfl) rfl rfl (Qt.index Try.underlying22 Try.cells24 rfl rfl (by omega) (Has.ro hR) (by rw [u64s_len]; omega)) ?_
      refine D.qX (k := 4) rfl (by kernel_rfl) (by kernel_rfl) (by kernel_rfl) rfl rfl (Qt.load rfl (Ld.sl (v := .int .u64 ((xs.getD k 0 : Nat) : Int)) (Has.ro hR) Try.one24 (u64s_get (by omega) (Nat.mul_one _)))) ?_
      refine D.nS (k := 5) (Sub.keep _ (Sub.drop _ (Sub.refl _))) rfl (by kernel_rfl) (by kernel_rfl) rfl rfl (OpV.con (Pre := []) (R := _) Try.ent44 rfl (List.Perm.refl _) (fun w hw => without_walk n (cutD ls (xs.take k)) A1 c1 (xs.getD k 0) w hcl (hrd w hw)) ?_)
      rintro v L' ⟨A2, c2, rfl, rfl⟩
      refine ⟨Sub.drop _ (Sub.keep _ (Sub.keep _ (Sub.refl _))), ?_⟩
      rw [← cutD_take ls xs k h19]
      refine D.opN (k := 6) (Sub.drop _ (Sub.keep _ (Sub.drop _ (Sub.refl _)))) rfl (by kernel_rfl) (by kernel_rfl) rfl (OpV.storeV2 rfl (by conv => lhs; whnf) (by exact Try.cells45) (by rfl) (by rfl) ⟨Sub.drop _ (Sub.keep _ (Sub.drop _ (Sub.refl _))), ?_⟩)
      refine D.done (Sub.drop _ (Sub.keep _ (Sub.drop _ (Sub.refl _)))) (by kernel_rfl) ?_
      refine TC.region ?_
      refine S.q rfl rfl (Qt.move (by conv => lhs; whnf)) ?_
      refine S.q rfl rfl (Qt.add (b := 1) rfl rfl (by simp only [kmax]; omega)) ?_
      refine S.q rfl rfl (Qt.assign (by conv => lhs; whnf)) ?_
      refine S.nil ?_
      refine ⟨(k + 1, A2, c2, [OwnA 84 33 A2 (cutD ls (xs.take (k + 1))).length c2 ((cutD ls (xs.take (k + 1))).flatMap leafL)]), ?_, ?_, ⟨?_, (List.forall_mem_cons.2 ⟨rfl, (fun _ h => nomatch h)⟩)⟩, (by dsimp only; exact sub_rot _ _ _ _)⟩
      · exact ⟨by show _ ≤ _; dsimp only; omega, fun w hw => rd_own hw 2 rfl, .inr rfl⟩
      · show _ < _; dsimp only; omega
      repeat (first | exact Out.refl _ _ | refine Out.put rfl ?_ | refine Out.puts rfl ?_ | refine Out.scr ?_ | refine Out.scr' rfl ?_)
    · refine S.nil ?_
      refine S.if_f rfl ?_
      refine TC.exit ?_
      refine TC.seq ?_
      refine TC.region ?_
      refine S.q rfl rfl (Qt.load rfl (Ld.all (vs := vl (.agg #[.int .u64 (n : Int), .slice A1 (cutD ls (xs.take k)).length c1])) (Has.at 1 rfl) Try.row45 Try.cells45)) ?_
      refine S.opN rfl (OpV.storeV0 rfl (by conv => lhs; whnf) (by exact Try.cells45) (by rfl) (by rfl) ?_)
      refine S.q rfl rfl (Qt.assign (by conv => lhs; whnf)) ?_
      refine S.nil ?_
      refine TC.ret ?_
      refine finQ.ret (RVs.cell rfl (Ld.all (Has.at 0 rfl) Try.row45 (Try.cells45)) (RVs.tmp (by conv => lhs; whnf) RVs.nil)) (Sub.drop _ (Sub.drop _ (Sub.refl _))) ?_
      rw [trimD, if_neg h13]
      obtain rfl : k = xs.length := by omega
      rcases hfo with ⟨h0, _⟩ | rfl
      · have := (asked_len (Decidable.not_not.1 h13)).1; omega
      · have e := cutD_all ls xs xs.length (Nat.le_refl _)
        exact ⟨A1, c1, by rw [← e]; rfl, .inr (by rw [← e])⟩
set_option maxHeartbeats 1600000 in
theorem rread_walk (n : Nat) (ls : Ls) (Al : Option Addr) (cl : Nat) (A : Option Addr) (c : Nat) (xs : List Nat) (hc : xs.length ≤ c) (hm : c ≤ 9223372036854775807) (w0 : World) (hlen : ls.length ≤ 200000) (hL : Ro w0 [] (SlA Al (ls.flatMap leafL))) (hR : Ro w0 [] (SlA A (u64s xs))) :
    Calls Try.prog 33 #[.agg #[.int .u64 (n : Int), .slice Al ls.length cl], .slice A xs.length c] w0 (Post w0 [] fun v L => ∃ O d, v = .tuple #[.slice O (readD n ls xs).2.length d, .int .i64 (((readD n ls xs).1 : Nat) : Int)] ∧ L = [OwnA 58 32 O (readD n ls xs).2.length d (hcs (readD n ls xs).2)]) := by
  refine Calls.of (L := []) (n := 32) (rs := [.tmp 4, .tmp 5]) Try.func33 rfl rfl rfl (Nat.le_of_ble_eq_true rfl) (Sat.nil _) ?_
  refine TC.ownNil 58 32 ?_
  refine TC.seq ?_
  refine TC.region ?_
  refine S.opS rfl rfl (OpV.box (v := .agg #[.int .u64 (n : Int), .slice Al ls.length cl]) rfl (fun b2 => ?_))
  refine S.q rfl rfl (Qt.assign (by conv => lhs; whnf)) ?_
  refine S.q rfl rfl (Qt.assign (by conv => lhs; whnf)) ?_
  refine S.nil ?_
  refine TC.seq ?_
  refine TC.seq ?_
  refine TC.region ?_
  refine S.q rfl rfl (Qt.move (by conv => lhs; whnf)) ?_
  refine S.q rfl rfl (Qt.field Try.underlying45 rfl Try.cells24 rfl) ?_
  refine S.q rfl rfl (Qt.load rfl (Ld.one (v := .int .u64 (n : Int)) (Has.at 0 rfl) Try.one24 rfl)) ?_
  refine S.opS rfl rfl (OpV.con0 Try.ent10 rfl (fun w hw => Calls.ret (refAsked_walk A c xs n w (Rd.ro hR w hw) hc hm)) ?_)
  refine S.q rfl rfl (Qt.assign (by conv => lhs; whnf)) ?_
  refine S.nil ?_
  refine TC.seq ?_
  refine TC.region ?_
  refine S.q rfl rfl (Qt.move (by conv => lhs; whnf)) ?_
  refine S.dec rfl rfl (Qt.ne (b := 0) rfl rfl) (fun h14 => ?_) (fun h14 => ?_)
  · refine S.nil ?_
    refine S.if_t rfl ?_
    refine TC.seq ?_
    refine TC.region ?_
    refine S.q rfl rfl (Qt.move (by conv => lhs; whnf)) ?_
    refine S.q rfl rfl (Qt.assign (by conv => lhs; whnf)) ?_
    refine S.q rfl rfl (Qt.assign (by conv => lhs; whnf)) ?_
    refine S.nil ?_
    refine TC.ret ?_
    refine finQ.ret (RVs.tmp (by conv => lhs; whnf) (RVs.tmp (by conv => lhs; whnf) RVs.nil)) (Sub.trans (Sub.keep _ (Sub.drop _ (Sub.nil []))) (Sub.trans (Sub.keep _ (Sub.refl _)) (Sub.of_perm (List.perm_middle (l₁ := [_]))))) ?_
    rw [readD, if_pos h14]
    exact ⟨none, 0, rfl, rfl⟩
  · refine S.nil ?_
    refine S.if_f rfl ?_
    refine TC.skip ?_
    refine TC.seq ?_
    refine TC.region ?_
    refine S.q rfl rfl (Qt.assign (by conv => lhs; whnf)) ?_
    refine S.nil ?_
    refine TC.seq ?_
    refine TC.seq ?_
    refine TC.region ?_
    refine S.q rfl rfl (Qt.assign (by conv => lhs; whnf)) ?_
    refine S.nil ?_
    refine TC.block ?_
    refine TC.loop (γ := Nat × Option Addr × Nat) [16, 17, 18, 19, 22, 23, 24, 25, 26, 27, 28, 29, 30, 7, 20, 21, 8] (fun g => [(8, .int .i64 ((g.1 : Nat) : Int)), (7, .slice g.2.1 g.1 g.2.2)]) (fun g => [OwnA 58 32 g.2.1 g.1 g.2.2 (hcs ((xs.take g.1).map (getD' ls))), Blk b2 45 (vl (.agg #[.int .u64 (n : Int), .slice Al ls.length cl]))]) (fun g => g.1 ≤ xs.length) (fun g => xs.length - g.1) ((0, none, 0))
      (Nat.zero_le _) ⟨Out.refl _ _, (List.forall_mem_cons.2 ⟨rfl, (List.forall_mem_cons.2 ⟨rfl, (fun _ h => nomatch h)⟩)⟩)⟩ (Sub.trans (Sub.keep _ (Sub.refl _)) (Sub.of_perm (List.perm_middle (l₁ := [_])))) ?_
    rintro ⟨k, O1, d1⟩ u hk
    dsimp only at hk
    have h256 := asked_len (Decidable.not_not.1 h14)
    refine TC.seq ?_
    refine TC.seq ?_
    refine TC.region ?_
    refine S.q rfl rfl (Qt.move (by conv => lhs; whnf)) ?_
    refine S.q rfl rfl (Qt.move (by conv => lhs; whnf)) ?_
    refine S.q rfl rfl (Qt.len_slice Try.underlying22 rfl) ?_
    refine S.dec rfl rfl (Qt.lt rfl rfl) (fun h19 => ?_) (fun h19 => ?_)
    · refine S.nil ?_
      refine S.if_t rfl ?_
      refine TC.skip ?_
      refine TC.seq ?_
      refine TC.block ?_
      refine S.draw ([8], [7]) Try.mixed (Sub.drop _ (Sub.keep _ (Sub.nil []))) ?_
      refine D.qX (k := 0) rfl (by kernel_rfl) (by kernel_rfl) (by kernel_rfl) rfl rfl (Qt.move (by conv => lhs; whnf)) ?_
      refine D.qX (k := 1) rfl (by kernel_rfl) (by kernel_rfl) (by kernel_rfl) rfl rfl (Qt.load rfl (Ld.all (vs := vl (.agg #[.int .u64 (n : Int), .slice Al ls.length cl])) (Has.at 1 rfl) Try.row45 Try.cells45)) ?_
      refine D.qX (k := 2) rfl (by kernel_rfl) (by kernel_rfl) (by kernel_rfl) rfl rfl (Qt.move (by conv => lhs; whnf)) ?_
      refine D.qX (k := 3) rfl (by kernel_rfl) (by kernel_rfl) (by kernel_rfl) rfl rfl (Qt.move (by conv => lhs; whnf)) ?_
      refine D.qX (k := 4) rfl (by kernel_rfl) (by kernel_rfl) (by kernel_rfl) rfl rfl (Qt.index Try.underlying22 Try.cells24 rfl rfl (by omega) (Has.ro hR) (by rw [u64s_len]; omega)) ?_
      refine D.qX (k := 5) rfl (by kernel_rfl) (by kernel_rfl) (by kernel_rfl) rfl rfl (Qt.load rfl (Ld.sl (v := .int .u64 ((xs.getD k 0 : Nat) : Int)) (Has.ro hR) Try.one24 (u64s_get (by omega) (Nat.mul_one _)))) ?_
      refine D.cX (k := 6) rfl (by kernel_rfl) (by kernel_rfl) (by kernel_rfl) rfl rfl (CalU.con0 Try.ent45 rfl (fun w hw => Calls.ret (get45_walk n ls Al cl (xs.getD k 0) w hlen (Rd.ro hL w hw)))) ?_
      refine D.nS (k := 7) (Sub.drop _ (Sub.keep _ (Sub.nil []))) rfl (by kernel_rfl) (by kernel_rfl) rfl rfl (OpV.slice1 (bytes := 32) (v := hv ((getD' ls (xs.getD k 0)))) Try.underlying23 Try.elem58 (by decide) rfl (by rw [vl_hv, hvl_length]) (fun g29 => ⟨Sub.drop _ (Sub.keep _ (Sub.keep _ (Sub.nil []))), ?_⟩))
      refine D.opS (k := 8) (Sub.drop _ (Sub.drop _ (Sub.keep _ (Sub.nil [])))) rfl (by kernel_rfl) (by kernel_rfl) rfl rfl (OpV.app1 (bytes := 32) (news := hvl ((getD' ls (xs.getD k 0)))) Try.underlying23 Try.elem58 rfl rfl (Has.blk (cs := hvl ((getD' ls (xs.getD k 0)))) (Has.at 0 rfl)) (by rw [hvl_length]) (bytesL_one _) (by simp only [maxLen]; omega) (by omega) (fun O2 d2 => ⟨Sub.drop _ (Sub.drop _ (Sub.keep _ (Sub.nil []))), ?_⟩))
      refine D.qX (k := 9) rfl (by kernel_rfl) (by kernel_rfl) (by kernel_rfl) rfl rfl (Qt.assign (by conv => lhs; whnf)) ?_
      refine D.done (Sub.drop _ (Sub.drop _ (Sub.keep _ (Sub.nil [])))) (by kernel_rfl) ?_
      refine TC.region ?_
      refine S.q rfl rfl (Qt.move (by conv => lhs; whnf)) ?_
      refine S.q rfl rfl (Qt.add (b := 1) rfl rfl (by simp only [kmax]; omega)) ?_
      refine S.q rfl rfl (Qt.assign (by conv => lhs; whnf)) ?_
      refine S.nil ?_
      refine ⟨(k + 1, O2, d2), ?_, ?_, ⟨?_, (List.forall_mem_cons.2 ⟨rfl, (List.forall_mem_cons.2 ⟨rfl, (fun _ h => nomatch h)⟩)⟩)⟩, (by dsimp only; rw [← read_stepD (getD' ls) xs k h19]; exact Sub.trans (Sub.keep _ (Sub.keep _ (Sub.drop _ (Sub.nil [])))) (Sub.trans (Sub.keep _ (Sub.trans (Sub.keep _ (Sub.refl _)) (Sub.of_perm (List.perm_middle (l₁ := [_]))))) (Sub.of_perm (List.perm_middle (l₁ := [_])))))⟩
      · exact (by show _ ≤ _; dsimp only; omega)
      · show _ < _; dsimp only; omega
      repeat (first | exact Out.refl _ _ | refine Out.put rfl ?_ | refine Out.puts rfl ?_ | refine Out.scr ?_ | refine Out.scr' rfl ?_)
    · refine S.nil ?_
      refine S.if_f rfl ?_
      refine TC.exit ?_
      refine TC.seq ?_
      refine TC.region ?_
      refine S.q rfl rfl (Qt.move (by conv => lhs; whnf)) ?_
      refine S.q rfl rfl (Qt.assign (by conv => lhs; whnf)) ?_
      refine S.q rfl rfl (Qt.assign (by conv => lhs; whnf)) ?_
      refine S.nil ?_
      refine TC.ret ?_
      refine finQ.ret (RVs.tmp (by conv => lhs; whnf) (RVs.tmp (by conv => lhs; whnf) RVs.nil)) (Sub.keep _ (Sub.drop _ (Sub.nil []))) ?_
      rw [readD, if_neg h14]
      obtain rfl : k = xs.length := by omega
      rw [List.take_length]
      exact ⟨O1, d1, by dsimp only; rw [List.length_map]; rfl, by dsimp only; rw [List.length_map]⟩
set_option maxHeartbeats 1600000 in
theorem rspan_walk (n : Nat) (ls : Ls) (Al : Option Addr) (cl : Nat) (first : Nat) (many : Int) (hn : n ≤ 4294967296) (hmm : many ≤ 9223372036854775807) (w0 : World) (hlen : ls.length ≤ 200000) (hL : Ro w0 [] (SlA Al (ls.flatMap leafL))) :
    Calls Try.prog 34 #[.agg #[.int .u64 (n : Int), .slice Al ls.length cl], .int .u64 (first : Int), .int .i64 many] w0 (Post w0 [] fun v L => ∃ O d, v = .tuple #[.slice O (spanD n ls first many).2.length d, .int .i64 (((spanD n ls first many).1 : Nat) : Int)] ∧ L = [OwnA 58 32 O (spanD n ls first many).2.length d (hcs (spanD n ls first many).2)]) := by
  refine Calls.of (L := []) (n := 34) (rs := [.tmp 6, .tmp 7]) Try.func34 rfl rfl rfl (Nat.le_of_ble_eq_true rfl) (Sat.nil _) ?_
  refine TC.ownNil 58 32 ?_
  refine TC.seq ?_
  refine TC.region ?_
  refine S.opS rfl rfl (OpV.box (v := .agg #[.int .u64 (n : Int), .slice Al ls.length cl]) rfl (fun b3 => ?_))
  refine S.q rfl rfl (Qt.assign (by conv => lhs; whnf)) ?_
  refine S.q rfl rfl (Qt.assign (by conv => lhs; whnf)) ?_
  refine S.nil ?_
  refine TC.seq ?_
  refine TC.seq ?_
  refine TC.region ?_
  refine S.q rfl rfl (Qt.move (by conv => lhs; whnf)) ?_
  refine S.q rfl rfl (Qt.move (by conv => lhs; whnf)) ?_
  refine S.q rfl rfl (Qt.field Try.underlying45 rfl Try.cells24 rfl) ?_
  refine S.q rfl rfl (Qt.load rfl (Ld.one (v := .int .u64 (n : Int)) (Has.at 0 rfl) Try.one24 rfl)) ?_
  refine S.opS rfl rfl (OpV.con0 Try.ent12 rfl (fun w hw => Calls.ret (refSpanned_walk first n many w (by omega) hmm)) ?_)
  refine S.q rfl rfl (Qt.assign (by conv => lhs; whnf)) ?_
  refine S.nil ?_
  refine TC.seq ?_
  refine TC.region ?_
  refine S.q rfl rfl (Qt.move (by conv => lhs; whnf)) ?_
  refine S.dec rfl rfl (Qt.ne (b := 0) rfl rfl) (fun h17 => ?_) (fun h17 => ?_)
  · refine S.nil ?_
    refine S.if_t rfl ?_
    refine TC.seq ?_
    refine TC.region ?_
    refine S.q rfl rfl (Qt.move (by conv => lhs; whnf)) ?_
    refine S.q rfl rfl (Qt.assign (by conv => lhs; whnf)) ?_
    refine S.q rfl rfl (Qt.assign (by conv => lhs; whnf)) ?_
    refine S.nil ?_
    refine TC.ret ?_
    refine finQ.ret (RVs.tmp (by conv => lhs; whnf) (RVs.tmp (by conv => lhs; whnf) RVs.nil)) (Sub.trans (Sub.keep _ (Sub.drop _ (Sub.nil []))) (Sub.trans (Sub.keep _ (Sub.refl _)) (Sub.of_perm (List.perm_middle (l₁ := [_]))))) ?_
    rw [spanD, if_pos h17]
    exact ⟨none, 0, rfl, rfl⟩
  · refine S.nil ?_
    refine S.if_f rfl ?_
    refine TC.skip ?_
    refine TC.seq ?_
    refine TC.region ?_
    refine S.q rfl rfl (Qt.assign (by conv => lhs; whnf)) ?_
    refine S.nil ?_
    refine TC.seq ?_
    refine TC.seq ?_
    refine TC.region ?_
    refine S.q rfl rfl (Qt.assign (by conv => lhs; whnf)) ?_
    refine S.nil ?_
    refine TC.block ?_
    have hs0 : spanned first many n = 0 := Decidable.not_not.1 h17
    have hsp : ¬ 256 < many ∧ ¬ many < 1 ∧ ¬ n ≤ first ∧ ¬ n - first < many.toNat := span0_of hs0
    refine TC.loop (γ := Nat × Option Addr × Nat) [19, 20, 21, 24, 25, 26, 27, 28, 29, 30, 31, 32, 9, 22, 23, 10] (fun g => [(10, .int .i64 ((g.1 : Nat) : Int)), (9, .slice g.2.1 g.1 g.2.2)]) (fun g => [OwnA 58 32 g.2.1 g.1 g.2.2 (hcs (spanLD ls first g.1)), Blk b3 45 (vl (.agg #[.int .u64 (n : Int), .slice Al ls.length cl]))]) (fun g => (g.1 : Int) ≤ many) (fun g => many.toNat - g.1) ((0, none, 0))
      (by show ((0 : Nat) : Int) ≤ many; omega) ⟨Out.refl _ _, (List.forall_mem_cons.2 ⟨rfl, (List.forall_mem_cons.2 ⟨rfl, (fun _ h => nomatch h)⟩)⟩)⟩ (Sub.trans (Sub.keep _ (Sub.refl _)) (Sub.of_perm (List.perm_middle (l₁ := [_])))) ?_
    rintro ⟨k, O1, d1⟩ u hk
    dsimp only at hk
    refine TC.seq ?_
    refine TC.seq ?_
    refine TC.region ?_
    refine S.q rfl rfl (Qt.move (by conv => lhs; whnf)) ?_
    refine S.q rfl rfl (Qt.move (by conv => lhs; whnf)) ?_
    refine S.dec rfl rfl (Qt.lti rfl rfl) (fun h21 => ?_) (fun h21 => ?_)
    · refine S.nil ?_
      refine S.if_t rfl ?_
      refine TC.skip ?_
      refine TC.seq ?_
      refine TC.block ?_
      refine TC.region ?_
      refine S.q rfl rfl (Qt.move (by conv => lhs; whnf)) ?_
      refine S.q rfl rfl (Qt.load rfl (Ld.all (vs := vl (.agg #[.int .u64 (n : Int), .slice Al ls.length cl])) (Has.at 1 rfl) Try.row45 Try.cells45)) ?_
      refine S.q rfl rfl (Qt.move (by conv => lhs; whnf)) ?_
      refine S.q rfl rfl (Qt.move (by conv => lhs; whnf)) ?_
      refine S.q rfl rfl (Qt.convert Try.underlying3 Try.underlying24 rfl (by simp only [kmax]; omega)) ?_
      refine S.q rfl rfl (Qt.add rfl rfl (by simp only [kmax]; omega)) ?_
      refine S.opS rfl rfl (OpV.con0 Try.ent45 rfl (fun w hw => Calls.ret (get45_walk n ls Al cl (first + k) w hlen (Rd.ro hL w hw))) ?_)
      refine S.opS rfl rfl (OpV.slice1 (bytes := 32) (v := hv ((getD' ls (first + k)))) Try.underlying23 Try.elem58 (by decide) rfl (by rw [vl_hv, hvl_length]) (fun g31 => ?_))
      refine S.opS rfl rfl (OpV.app1 (bytes := 32) (news := hvl ((getD' ls (first + k)))) Try.underlying23 Try.elem58 rfl rfl (Has.blk (cs := hvl ((getD' ls (first + k)))) (Has.at 0 rfl)) (by rw [hvl_length]) (bytesL_one _) (by simp only [maxLen]; omega) (by omega) (fun O2 d2 => ?_))
      refine S.q rfl rfl (Qt.assign (by conv => lhs; whnf)) ?_
      refine S.nil ?_
      refine TC.region ?_
      refine S.q rfl rfl (Qt.move (by conv => lhs; whnf)) ?_
      refine S.q rfl rfl (Qt.add (b := 1) rfl rfl (by simp only [kmax]; omega)) ?_
      refine S.q rfl rfl (Qt.assign (by conv => lhs; whnf)) ?_
      refine S.nil ?_
      refine ⟨(k + 1, O2, d2), ?_, ?_, ⟨?_, (List.forall_mem_cons.2 ⟨rfl, (List.forall_mem_cons.2 ⟨rfl, (fun _ h => nomatch h)⟩)⟩)⟩, (by dsimp only; unfold spanLD; rw [← range_stepD (fun i => getD' ls (first + i)) k]; exact Sub.trans (Sub.keep _ (Sub.keep _ (Sub.drop _ (Sub.nil [])))) (Sub.trans (Sub.keep _ (Sub.trans (Sub.keep _ (Sub.refl _)) (Sub.of_perm (List.perm_middle (l₁ := [_]))))) (Sub.of_perm (List.perm_middle (l₁ := [_])))))⟩
      · exact (by show ((k + 1 : Nat) : Int) ≤ many; omega)
      · show _ < _; dsimp only; omega
      repeat (first | exact Out.refl _ _ | refine Out.put rfl ?_ | refine Out.puts rfl ?_ | refine Out.scr ?_ | refine Out.scr' rfl ?_)
    · refine S.nil ?_
      refine S.if_f rfl ?_
      refine TC.exit ?_
      refine TC.seq ?_
      refine TC.region ?_
      refine S.q rfl rfl (Qt.move (by conv => lhs; whnf)) ?_
      refine S.q rfl rfl (Qt.assign (by conv => lhs; whnf)) ?_
      refine S.q rfl rfl (Qt.assign (by conv => lhs; whnf)) ?_
      refine S.nil ?_
      refine TC.ret ?_
      refine finQ.ret (RVs.tmp (by conv => lhs; whnf) (RVs.tmp (by conv => lhs; whnf) RVs.nil)) (Sub.keep _ (Sub.drop _ (Sub.nil []))) ?_
      rw [spanD, if_neg h17]
      obtain rfl : k = many.toNat := by omega
      have e : (spanLD ls first many.toNat).length = many.toNat := by rw [spanLD, List.length_map, List.length_range]
      exact ⟨O1, d1, by dsimp only; rw [e]; rfl, by dsimp only; rw [e]⟩
set_option maxHeartbeats 1600000 in
theorem rresize_walk (n : Nat) (ls : Ls) (Al : Option Addr) (cl : Nat) (q : Nat) (w0 : World) (hlen : ls.length ≤ 200000) (hL : Ro w0 [] (SlA Al (ls.flatMap leafL))) :
    Calls Try.prog 35 #[.agg #[.int .u64 (n : Int), .slice Al ls.length cl], .int .u64 (q : Int)] w0 (Post w0 [] fun v L => ∃ A2 c2, v = .tuple #[.agg #[.int .u64 (((resizeD n ls q).2.1 : Nat) : Int), .slice A2 (resizeD n ls q).2.2.length c2], .int .i64 (((resizeD n ls q).1 : Nat) : Int)] ∧ Held Al cl ls A2 c2 (resizeD n ls q).2.2 L) := by
  refine Calls.of (L := []) (n := 52) (rs := [.cell 4 45, .tmp 5]) Try.func35 rfl rfl rfl (Nat.le_of_ble_eq_true rfl) (Sat.nil _) ?_
  refine TC.ownNil 84 33 ?_
  refine TC.seq ?_
  refine TC.region ?_
  refine S.opS rfl rfl (OpV.box (v := .agg #[.int .u64 (n : Int), .slice Al ls.length cl]) rfl (fun b2 => ?_))
  refine S.opS rfl rfl (OpV.alloc Try.zero45 (fun b4 => ?_))
  refine S.q rfl rfl (Qt.assign (by conv => lhs; whnf)) ?_
  refine S.nil ?_
  refine TC.seq ?_
  refine TC.seq ?_
  refine TC.region ?_
  refine S.q rfl rfl (Qt.move (by conv => lhs; whnf)) ?_
  refine S.dec rfl rfl (Qt.eq (b := 0) rfl rfl) (fun h9 => ?_) (fun h9 => ?_)
  · refine S.q rfl rfl (Qt.move (by conv => lhs; whnf)) ?_
    refine S.pass rfl rfl ?_
    refine S.pass rfl rfl ?_
    refine S.q rfl rfl (Qt.pick_t rfl (by conv => lhs; whnf)) ?_
    refine S.nil ?_
    refine S.if_t rfl ?_
    refine TC.seq ?_
    refine TC.region ?_
    refine S.q rfl rfl (Qt.load rfl (Ld.all (vs := vl (.agg #[.int .u64 (n : Int), .slice Al ls.length cl])) (Has.at 1 rfl) Try.row45 Try.cells45)) ?_
    refine S.opN rfl (OpV.storeV0 rfl (by conv => lhs; whnf) (by exact Try.cells45) (by rfl) (by rfl) ?_)
    refine S.q rfl rfl (Qt.assign (by conv => lhs; whnf)) ?_
    refine S.nil ?_
    refine TC.ret ?_
    refine finQ.ret (RVs.cell rfl (Ld.all (Has.at 0 rfl) Try.row45 (Try.cells45)) (RVs.tmp (by conv => lhs; whnf) RVs.nil)) (Sub.nil _) ?_
    rw [resizeD, if_pos (by omega)]
    exact ⟨Al, cl, rfl, .inl ⟨rfl, rfl, rfl, rfl⟩⟩
  · refine S.q rfl rfl (Qt.move (by conv => lhs; whnf)) ?_
    refine S.qg rfl rfl rfl (Qt.move (by conv => lhs; whnf)) ?_
    refine S.decg rfl rfl rfl (Qt.gt (b := 4294967296) rfl rfl) (fun h12 => ?_) (fun h12 => ?_)
    · refine S.q rfl rfl (Qt.pick_f rfl (by conv => lhs; whnf)) ?_
      refine S.nil ?_
      refine S.if_t rfl ?_
      refine TC.seq ?_
      refine TC.region ?_
      refine S.q rfl rfl (Qt.load rfl (Ld.all (vs := vl (.agg #[.int .u64 (n : Int), .slice Al ls.length cl])) (Has.at 1 rfl) Try.row45 Try.cells45)) ?_
      refine S.opN rfl (OpV.storeV0 rfl (by conv => lhs; whnf) (by exact Try.cells45) (by rfl) (by rfl) ?_)
      refine S.q rfl rfl (Qt.assign (by conv => lhs; whnf)) ?_
      refine S.nil ?_
      refine TC.ret ?_
      refine finQ.ret (RVs.cell rfl (Ld.all (Has.at 0 rfl) Try.row45 (Try.cells45)) (RVs.tmp (by conv => lhs; whnf) RVs.nil)) (Sub.nil _) ?_
      rw [resizeD, if_pos (by omega)]
      exact ⟨Al, cl, rfl, .inl ⟨rfl, rfl, rfl, rfl⟩⟩
    · refine S.q rfl rfl (Qt.pick_f rfl (by conv => lhs; whnf)) ?_
      refine S.nil ?_
      refine S.if_f rfl ?_
      refine TC.skip ?_
      refine TC.seq ?_
      refine TC.region ?_
      refine S.q rfl rfl (Qt.move (by conv => lhs; whnf)) ?_
      refine S.q rfl rfl (Qt.build1 (a := .int .u64 (q : Int)) rfl (Try.build45 q)) ?_
      refine S.opS rfl rfl (OpV.alloc Try.zero45 (fun b6 => ?_))
      refine S.opN rfl (OpV.storeV0 rfl (by conv => lhs; whnf) (by exact Try.cells45) (by rfl) (by rfl) ?_)
      refine S.nil ?_
      refine TC.seq ?_
      refine TC.seq ?_
      refine TC.region ?_
      refine S.q rfl rfl (Qt.assign (by conv => lhs; whnf)) ?_
      refine S.nil ?_
      refine TC.block ?_
      refine TC.loop (γ := Nat × Ls × Option Addr × Nat) [17, 18, 19, 20, 21, 24, 25, 26, 27, 28, 29, 30, 31, 32, 33, 34, 35, 36, 37, 38, 39, 40, 41, 22, 23, 7] (fun g => [(7, .int .i64 ((g.1 : Nat) : Int))]) (fun g => [OwnA 84 33 g.2.2.1 (g.2.1).length g.2.2.2 ((g.2.1).flatMap leafL), Blk b6 45 [.int .u64 (q : Int), .slice g.2.2.1 g.2.1.length g.2.2.2], Blk b4 45 [.int .u64 0, .slice none 0 0], Blk b2 45 (vl (.agg #[.int .u64 (n : Int), .slice Al ls.length cl]))]) (fun g => g.1 ≤ ls.length ∧ g.2.1 = loL q (ls.take g.1)) (fun g => ls.length - g.1) ((0, [], none, 0))
        ⟨Nat.zero_le _, rfl⟩ ⟨Out.refl _ _, (List.forall_mem_cons.2 ⟨rfl, (fun _ h => nomatch h)⟩)⟩ (Sub.trans (Sub.keep _ (Sub.refl _)) (Sub.of_perm (List.perm_middle (l₁ := [_, _, _])))) ?_
      rintro ⟨k, out, A1, c1⟩ u ⟨hk, ha⟩
      dsimp only at hk ha
      have hal : out.length ≤ k := by rw [ha]; exact loL_len' q ls k hk
      refine TC.seq ?_
      refine TC.seq ?_
      refine TC.region ?_
      refine S.q rfl rfl (Qt.move (by conv => lhs; whnf)) ?_
      refine S.q rfl rfl (Qt.field Try.underlying45 rfl Try.cells43 rfl) ?_
      refine S.q rfl rfl (Qt.load rfl (Ld.one (Has.at 3 rfl) Try.one43 (rfl))) ?_
      refine S.q rfl rfl (Qt.len_slice Try.underlying43 rfl) ?_
      refine S.dec rfl rfl (Qt.lt rfl rfl) (fun h21 => ?_) (fun h21 => ?_)
      · refine S.nil ?_
        refine S.if_t rfl ?_
        refine TC.skip ?_
        refine TC.seq ?_
        refine TC.block ?_
        refine TC.seq ?_
        refine TC.region ?_
        refine S.q rfl rfl (Qt.field Try.underlying45 rfl Try.cells43 rfl) ?_
        refine S.q rfl rfl (Qt.load rfl (Ld.one (Has.at 3 rfl) Try.one43 (rfl))) ?_
        refine S.q rfl rfl (Qt.move (by conv => lhs; whnf)) ?_
        refine S.q rfl rfl (Qt.index Try.underlying43 Try.cells84 rfl rfl (by omega) (Has.ro hL) (by rw [leafL_len]; omega)) ?_
        refine S.q rfl rfl (Qt.fieldS Try.underlying84 rfl Try.cells24 rfl (Has.ro hL) (by rw [leafL_len]; omega)) ?_
        refine S.q rfl rfl (Qt.load rfl (Ld.sl (v := .int .u64 (((ls.getD k leaf0)).1 : Int)) (Has.ro hL) Try.one24 (leaf_at (by omega) 0 _ rfl))) ?_
        refine S.q rfl rfl (Qt.move (by conv => lhs; whnf)) ?_
        refine S.dec rfl rfl (Qt.lt rfl rfl) (fun h31 => ?_) (fun h31 => ?_)
        · refine S.nil ?_
          refine S.if_t rfl ?_
          refine S.draw ([8, 10], [7]) Try.mixed (Sub.drop _ (Sub.drop _ (Sub.keep _ (Sub.keep _ (Sub.nil []))))) ?_
          refine D.qX (k := 0) rfl (by kernel_rfl) (by kernel_rfl) (by kernel_rfl) rfl rfl (Qt.field Try.underlying45 rfl Try.cells43 rfl) ?_
          refine D.qX (k := 1) rfl (by kernel_rfl) (by kernel_rfl) (by kernel_rfl) rfl rfl (Qt.load rfl (Ld.one (Has.at 1 rfl) Try.one43 (rfl))) ?_
          refine D.qX (k := 2) rfl (by kernel_rfl) (by kernel_rfl) (by kernel_rfl) rfl rfl (Qt.field Try.underlying45 rfl Try.cells43 rfl) ?_
          refine D.qX (k := 3) rfl (by kernel_rfl) (by kernel_rfl) (by kernel_rfl) rfl rfl (Qt.load rfl (Ld.one (Has.at 3 rfl) Try.one43 (rfl))) ?_
          refine D.qX (k := 4) rfl (by kernel_rfl) (by kernel_rfl) (by kernel_rfl) rfl rfl (Qt.move (by conv => lhs; whnf)) ?_
          refine D.qX (k := 5) rfl (by kernel_rfl) (by kernel_rfl) (by kernel_rfl) rfl rfl (Qt.index Try.underlying43 Try.cells84 rfl rfl (by omega) (Has.ro hL) (by rw [leafL_len]; omega)) ?_
          refine D.qX (k := 6) rfl (by kernel_rfl) (by kernel_rfl) (by kernel_rfl) rfl rfl (Qt.load rfl (Ld.slr (vs := leafL ((ls.getD k leaf0))) (Has.ro hL) Try.row84 (by rw [leafL_length]; exact Try.cells84) (by rw [leafL_length]; decide) (leaf_at (by omega)))) ?_
          refine D.nS (k := 7) (Sub.drop _ (Sub.drop _ (Sub.keep _ (Sub.keep _ (Sub.nil []))))) rfl (by kernel_rfl) (by kernel_rfl) rfl rfl (OpV.slice1 (bytes := 40) (v := .agg (leafL ((ls.getD k leaf0))).toArray) Try.underlying43 Try.elem84 (by decide) rfl (leafL_vl _) (fun g39 => ⟨Sub.drop _ (Sub.keep _ (Sub.keep _ (Sub.keep _ (Sub.keep _ (Sub.nil []))))), ?_⟩))
          refine D.opS (k := 8) (Sub.drop _ (Sub.drop _ (Sub.drop _ (Sub.keep _ (Sub.keep _ (Sub.nil [])))))) rfl (by kernel_rfl) (by kernel_rfl) rfl rfl (OpV.app1 (bytes := 40) (news := leafL ((ls.getD k leaf0))) Try.underlying43 Try.elem84 rfl rfl (Has.blk (cs := leafL ((ls.getD k leaf0))) (Has.at 0 rfl)) (by rw [leafL_length]) (leafL_one _) (by simp only [maxLen]; omega) (by (try dsimp only); omega) (fun O1 d1 => ⟨Sub.drop _ (Sub.drop _ (Sub.drop _ (Sub.keep _ (Sub.keep _ (Sub.nil []))))), ?_⟩))
          refine D.qX (k := 9) rfl (by kernel_rfl) (by kernel_rfl) (by kernel_rfl) rfl rfl (Qt.field Try.underlying45 rfl Try.cells43 rfl) ?_
          refine D.opN (k := 10) (Sub.drop _ (Sub.drop _ (Sub.drop _ (Sub.keep _ (Sub.keep _ (Sub.nil [])))))) rfl (by kernel_rfl) (by kernel_rfl) rfl (OpV.storeC2 rfl (by conv => lhs; whnf) Try.cells43 rfl rfl (Nat.le_of_ble_eq_true rfl) ⟨Sub.drop _ (Sub.drop _ (Sub.drop _ (Sub.keep _ (Sub.keep _ (Sub.nil []))))), ?_⟩)
          refine D.done (Sub.drop _ (Sub.drop _ (Sub.drop _ (Sub.keep _ (Sub.keep _ (Sub.nil [])))))) (by kernel_rfl) ?_
          refine TC.region ?_
          refine S.q rfl rfl (Qt.move (by conv => lhs; whnf)) ?_
          refine S.q rfl rfl (Qt.add (b := 1) rfl rfl (by simp only [kmax]; omega)) ?_
          refine S.q rfl rfl (Qt.assign (by conv => lhs; whnf)) ?_
          refine S.nil ?_
          refine ⟨(k + 1, out ++ [(ls.getD k leaf0)], O1, d1), ?_, ?_, ⟨?_, (List.forall_mem_cons.2 ⟨rfl, (fun _ h => nomatch h)⟩)⟩, (by dsimp only; simp only [len_snoc, flat_snoc]; exact Sub.trans (Sub.keep _ (Sub.keep _ (Sub.keep _ (Sub.keep _ (Sub.drop _ (Sub.nil [])))))) (Sub.trans (Sub.keep _ (Sub.trans (Sub.keep _ (Sub.trans (Sub.keep _ (Sub.trans (Sub.keep _ (Sub.refl _)) (Sub.of_perm (List.perm_middle (l₁ := [_]))))) (Sub.of_perm (List.perm_middle (l₁ := [_]))))) (Sub.of_perm (List.perm_middle (l₁ := [_]))))) (Sub.of_perm (List.perm_middle (l₁ := [_])))))⟩
          · exact ⟨by show _ ≤ _; dsimp only; omega, by dsimp only; rw [loL_step q ls h21, if_pos h31, ha]⟩
          · show _ < _; dsimp only; omega
          repeat (first | exact Out.refl _ _ | refine Out.put rfl ?_ | refine Out.puts rfl ?_ | refine Out.scr ?_ | refine Out.scr' rfl ?_)
        · refine S.nil ?_
          refine S.if_f rfl ?_
          refine TC.skip ?_
          refine TC.region ?_
          refine S.q rfl rfl (Qt.move (by conv => lhs; whnf)) ?_
          refine S.q rfl rfl (Qt.add (b := 1) rfl rfl (by simp only [kmax]; omega)) ?_
          refine S.q rfl rfl (Qt.assign (by conv => lhs; whnf)) ?_
          refine S.nil ?_
          refine ⟨(k + 1, out, A1, c1), ?_, ?_, ⟨?_, (List.forall_mem_cons.2 ⟨rfl, (fun _ h => nomatch h)⟩)⟩, Sub.refl _⟩
          · exact ⟨by show _ ≤ _; dsimp only; omega, by dsimp only; rw [loL_step q ls h21, if_neg h31, ha]⟩
          · show _ < _; dsimp only; omega
          repeat (first | exact Out.refl _ _ | refine Out.put rfl ?_ | refine Out.puts rfl ?_ | refine Out.scr ?_ | refine Out.scr' rfl ?_)
      · refine S.nil ?_
        refine S.if_f rfl ?_
        refine TC.exit ?_
        refine TC.seq ?_
        refine TC.seq ?_
        refine TC.region ?_
        refine S.q rfl rfl (Qt.field Try.underlying45 rfl Try.cells43 rfl) ?_
        refine S.q rfl rfl (Qt.load rfl (Ld.one (Has.at 3 rfl) Try.one43 (rfl))) ?_
        refine S.q rfl rfl (Qt.len_slice Try.underlying43 rfl) ?_
        refine S.q rfl rfl (Qt.field Try.underlying45 rfl Try.cells43 rfl) ?_
        refine S.q rfl rfl (Qt.load rfl (Ld.one (Has.at 1 rfl) Try.one43 (rfl))) ?_
        refine S.q rfl rfl (Qt.len_slice Try.underlying43 rfl) ?_
        obtain rfl : k = ls.length := by omega
        rw [take_all ls (Nat.le_refl _)] at ha
        subst ha
        have hll := loL_len q ls
        refine S.q rfl rfl (Qt.sub rfl rfl (by omega) (by simp only [kmax]; omega)) ?_
        refine S.dec rfl rfl (Qt.gt (b := 256) rfl rfl) (fun h49 => ?_) (fun h49 => ?_)
        · refine S.nil ?_
          refine S.if_t rfl ?_
          refine TC.seq ?_
          refine TC.region ?_
          refine S.q rfl rfl (Qt.load rfl (Ld.all (vs := vl (.agg #[.int .u64 (n : Int), .slice Al ls.length cl])) (Has.at 3 rfl) Try.row45 Try.cells45)) ?_
          refine S.opN rfl (OpV.storeV2 rfl (by conv => lhs; whnf) (by exact Try.cells45) (by rfl) (by rfl) ?_)
          refine S.q rfl rfl (Qt.assign (by conv => lhs; whnf)) ?_
          refine S.nil ?_
          refine TC.ret ?_
          refine finQ.ret (RVs.cell rfl (Ld.all (Has.at 2 rfl) Try.row45 (Try.cells45)) (RVs.tmp (by conv => lhs; whnf) RVs.nil)) (Sub.nil _) ?_
          rw [resizeD, if_neg (by omega), if_pos (by omega)]
          exact ⟨Al, cl, rfl, .inl ⟨rfl, rfl, rfl, rfl⟩⟩
        · refine S.nil ?_
          refine S.if_f rfl ?_
          refine TC.skip ?_
          refine TC.seq ?_
          refine TC.region ?_
          refine S.q rfl rfl (Qt.load rfl (Ld.all (vs := vl (.agg #[.int .u64 (q : Int), .slice A1 (loL q ls).length c1])) (Has.at 1 rfl) Try.row45 Try.cells45)) ?_
          refine S.opN rfl (OpV.storeV2 rfl (by conv => lhs; whnf) (by exact Try.cells45) (by rfl) (by rfl) ?_)
          refine S.q rfl rfl (Qt.assign (by conv => lhs; whnf)) ?_
          refine S.nil ?_
          refine TC.ret ?_
          refine finQ.ret (RVs.cell rfl (Ld.all (Has.at 2 rfl) Try.row45 (Try.cells45)) (RVs.tmp (by conv => lhs; whnf) RVs.nil)) (Sub.keep _ (Sub.drop _ (Sub.drop _ (Sub.drop _ (Sub.nil []))))) ?_
          rw [resizeD, if_neg (by omega), if_neg (by omega)]
          exact ⟨A1, c1, rfl, .inr rfl⟩
end Go.Proofs.Ytaoicbjgkghnnaa
namespace Go.Proofs.Ytaoicbjgkghnnaa
open Go.E
set_option linter.unusedVariables false
set_option maxRecDepth 4000
theorem Try.ent31 : Enters Try.prog 31 := ⟨_, Try.func31, by kernel_rfl, rfl⟩
theorem Try.ent32 : Enters Try.prog 32 := ⟨_, Try.func32, by kernel_rfl, rfl⟩
theorem Try.ent33 : Enters Try.prog 33 := ⟨_, Try.func33, by kernel_rfl, rfl⟩
theorem Try.ent34 : Enters Try.prog 34 := ⟨_, Try.func34, by kernel_rfl, rfl⟩
theorem Try.ent35 : Enters Try.prog 35 := ⟨_, Try.func35, by kernel_rfl, rfl⟩
theorem new_bad_sized (n : Nat) (h : ¬ (1 ≤ n ∧ n ≤ 4294967296)) (w : World) : Calls Try.prog 29 #[.int .u64 (n : Int)] w (Ret w (.bool false)) := by
  have h1 := sized_walk n w
  rw [decide_eq_false h] at h1
  exact Calls.ret h1
set_option maxHeartbeats 1600000 in
theorem rdo_walk (n : Nat) (ls : Ls) (Al : Option Addr) (cl : Nat) (k : Int) (A : Option Addr) (c : Nat) (xs : List Nat) (hc : xs.length ≤ c) (hm : c ≤ 9223372036854775807) (B : Option Addr) (d : Nat) (bs : List H32) (f : Nat) (q : Int) (hn : n ≤ 4294967296) (hq : q ≤ 9223372036854775807) (hr : ls.Pairwise (fun a b => a.1 < b.1)) (w0 : World) (hlen : ls.length ≤ 100000) (hL : Ro w0 [] (SlA Al (ls.flatMap leafL))) (hR : Ro w0 [] (SlA A (u64s xs))) (hB : Ro w0 [] (SlA B (hcs bs))) :
    Calls Try.prog 17 #[.agg #[.int .u64 (n : Int), .slice Al ls.length cl], .agg #[.int .i64 k, .slice A xs.length c, .slice B bs.length d, .int .u64 (f : Int), .int .i64 q]] w0 (Post w0 [] fun v L => ∃ A2 c2 O e L1, v = .tuple #[.agg #[.int .u64 (((doD n ls (uw k % 5) xs bs f q).2.2.1 : Nat) : Int), .slice A2 (doD n ls (uw k % 5) xs bs f q).2.2.2.length c2], .slice O (doD n ls (uw k % 5) xs bs f q).2.1.length e, .int .i64 (((doD n ls (uw k % 5) xs bs f q).1 : Nat) : Int)] ∧ Held Al cl ls A2 c2 (doD n ls (uw k % 5) xs bs f q).2.2.2 L1 ∧ L = OwnA 58 32 O (doD n ls (uw k % 5) xs bs f q).2.1.length e (hcs (doD n ls (uw k % 5) xs bs f q).2.1) :: L1) := by
  refine Calls.of (L := []) (n := 63) (rs := [.cell 4 45, .tmp 5, .tmp 6]) Try.func17 rfl rfl rfl (Nat.le_of_ble_eq_true rfl) (Sat.nil _) ?_
  refine TC.seq ?_
  refine TC.region ?_
  refine S.opS rfl rfl (OpV.box (v := .agg #[.int .u64 (n : Int), .slice Al ls.length cl]) rfl (fun b2 => ?_))
  refine S.opS rfl rfl (OpV.box (v := .agg #[.int .i64 k, .slice A xs.length c, .slice B bs.length d, .int .u64 (f : Int), .int .i64 q]) rfl (fun b3 => ?_))
  refine S.opS rfl rfl (OpV.alloc Try.zero45 (fun b4 => ?_))
  refine S.q rfl rfl (Qt.assign (by conv => lhs; whnf)) ?_
  refine S.q rfl rfl (Qt.assign (by conv => lhs; whnf)) ?_
  refine S.nil ?_
  refine TC.seq ?_
  refine TC.region ?_
  refine S.q rfl rfl (Qt.assign (by conv => lhs; whnf)) ?_
  refine S.nil ?_
  refine TC.seq ?_
  refine TC.region ?_
  refine S.q rfl rfl (Qt.assign (by conv => lhs; whnf)) ?_
  refine S.nil ?_
  refine TC.seq ?_
  refine TC.seq ?_
  refine TC.region ?_
  refine S.q rfl rfl (Qt.field Try.underlying26 rfl Try.cells3 rfl) ?_
  refine S.q rfl rfl (Qt.load rfl (Ld.one (v := .int .i64 k) (Has.at 1 rfl) Try.one3 rfl)) ?_
  refine S.q rfl rfl (Qt.conv_wrap (k := k) Try.underlying3 Try.underlying46 rfl) ?_
  refine S.q rfl rfl (Qt.rem (b := 5) rfl rfl (by omega)) ?_
  refine S.nil ?_
  refine TC.block ?_
  refine TC.seq ?_
  refine TC.region ?_
  refine S.dec rfl rfl (Qt.eq (b := 0) rfl rfl) (fun h21 => ?_) (fun h21 => ?_)
  · refine S.q rfl rfl (Qt.assign (by conv => lhs; whnf)) ?_
    refine S.nil ?_
    refine S.if_t rfl ?_
    refine TC.region ?_
    refine S.q rfl rfl (Qt.load rfl (Ld.all (vs := vl (.agg #[.int .u64 (n : Int), .slice Al ls.length cl])) (Has.at 2 rfl) Try.row45 Try.cells45)) ?_
    refine S.q rfl rfl (Qt.field Try.underlying26 rfl Try.cells22 rfl) ?_
    refine S.q rfl rfl (Qt.load rfl (Ld.one (Has.at 1 rfl) Try.one22 (rfl))) ?_
    refine S.q rfl rfl (Qt.field Try.underlying26 rfl Try.cells23 rfl) ?_
    refine S.q rfl rfl (Qt.load rfl (Ld.one (Has.at 1 rfl) Try.one23 (rfl))) ?_
    refine S.opS rfl rfl (OpV.con (Pre := []) (R := _) Try.ent31 rfl (List.Perm.refl _) (fun w hw => rwrite_walk n ls Al cl A c xs hc hm B d bs hr w hlen (Rd.ro hL w hw) (Rd.ro hR w hw) (Rd.ro hB w hw)) ?_)
    rintro v L' ⟨A2, c2, rfl, ⟨rfl, e1, e2, e3⟩ | rfl⟩
    · refine TL.ownNil 58 32 ?_
      refine S.q rfl rfl (Qt.move (by conv => lhs; whnf)) ?_
      refine S.q rfl rfl (Qt.extract rfl rfl) ?_
      refine S.q rfl rfl (Qt.extract rfl rfl) ?_
      refine S.opN rfl (OpV.storeV3 rfl (by conv => lhs; whnf) (by exact Try.cells45) (by rfl) (by rfl) ?_)
      refine S.q rfl rfl (Qt.assign (by conv => lhs; whnf)) ?_
      refine S.nil ?_
      refine TC.seq ?_
      refine TC.region ?_
      refine S.q rfl rfl (Qt.load rfl (Ld.all (vs := vl (.agg #[.int .u64 ((n : Nat) : Int), .slice A2 (writeD n ls xs bs).2.length c2])) (Has.at 3 rfl) Try.row45 Try.cells45)) ?_
      refine S.q rfl rfl (Qt.move (by conv => lhs; whnf)) ?_
      refine S.q rfl rfl (Qt.move (by conv => lhs; whnf)) ?_
      refine S.opN rfl (OpV.storeV1 rfl (by conv => lhs; whnf) (by exact Try.cells45) (by rfl) (by rfl) ?_)
      refine S.q rfl rfl (Qt.assign (by conv => lhs; whnf)) ?_
      refine S.q rfl rfl (Qt.assign (by conv => lhs; whnf)) ?_
      refine S.nil ?_
      refine TC.ret ?_
      refine finQ.ret (RVs.cell rfl (Ld.all (Has.at 1 rfl) Try.row45 (Try.cells45)) (RVs.tmp (by conv => lhs; whnf) (RVs.tmp (by conv => lhs; whnf) RVs.nil))) (Sub.keep _ (Sub.drop _ (Sub.drop _ (Sub.drop _ (Sub.nil []))))) ?_
      rw [doD, if_pos h21]
      exact ⟨A2, c2, none, 0, [], rfl, .inl ⟨rfl, e1, e2, e3⟩, rfl⟩
    · refine TL.ownNil 58 32 ?_
      refine S.q rfl rfl (Qt.move (by conv => lhs; whnf)) ?_
      refine S.q rfl rfl (Qt.extract rfl rfl) ?_
      refine S.q rfl rfl (Qt.extract rfl rfl) ?_
      refine S.opN rfl (OpV.storeV4 rfl (by conv => lhs; whnf) (by exact Try.cells45) (by rfl) (by rfl) ?_)
      refine S.q rfl rfl (Qt.assign (by conv => lhs; whnf)) ?_
      refine S.nil ?_
      refine TC.seq ?_
      refine TC.region ?_
      refine S.q rfl rfl (Qt.load rfl (Ld.all (vs := vl (.agg #[.int .u64 ((n : Nat) : Int), .slice A2 (writeD n ls xs bs).2.length c2])) (Has.at 4 rfl) Try.row45 Try.cells45)) ?_
      refine S.q rfl rfl (Qt.move (by conv => lhs; whnf)) ?_
      refine S.q rfl rfl (Qt.move (by conv => lhs; whnf)) ?_
      refine S.opN rfl (OpV.storeV2 rfl (by conv => lhs; whnf) (by exact Try.cells45) (by rfl) (by rfl) ?_)
      refine S.q rfl rfl (Qt.assign (by conv => lhs; whnf)) ?_
      refine S.q rfl rfl (Qt.assign (by conv => lhs; whnf)) ?_
      refine S.nil ?_
      refine TC.ret ?_
      refine finQ.ret (RVs.cell rfl (Ld.all (Has.at 2 rfl) Try.row45 (Try.cells45)) (RVs.tmp (by conv => lhs; whnf) (RVs.tmp (by conv => lhs; whnf) RVs.nil))) (Sub.keep _ (Sub.keep _ (Sub.drop _ (Sub.drop _ (Sub.drop _ (Sub.nil [])))))) ?_
      rw [doD, if_pos h21]
      exact ⟨A2, c2, none, 0, _, rfl, .inr rfl, rfl⟩
  · refine S.q rfl rfl (Qt.assign (by conv => lhs; whnf)) ?_
    refine S.nil ?_
    refine S.if_f rfl ?_
    refine TC.seq ?_
    refine TC.region ?_
    refine S.dec rfl rfl (Qt.eq (b := 1) rfl rfl) (fun h32 => ?_) (fun h32 => ?_)
    · refine S.q rfl rfl (Qt.assign (by conv => lhs; whnf)) ?_
      refine S.nil ?_
      refine S.if_t rfl ?_
      refine TC.region ?_
      refine S.q rfl rfl (Qt.load rfl (Ld.all (vs := vl (.agg #[.int .u64 (n : Int), .slice Al ls.length cl])) (Has.at 2 rfl) Try.row45 Try.cells45)) ?_
      refine S.q rfl rfl (Qt.field Try.underlying26 rfl Try.cells22 rfl) ?_
      refine S.q rfl rfl (Qt.load rfl (Ld.one (Has.at 1 rfl) Try.one22 (rfl))) ?_
      refine S.opS rfl rfl (OpV.con (Pre := []) (R := _) Try.ent32 rfl (List.Perm.refl _) (fun w hw => rtrim_walk n ls Al cl A c xs hc hm w hlen (Rd.ro hL w hw) (Rd.ro hR w hw)) ?_)
      rintro v L' ⟨A2, c2, rfl, ⟨rfl, e1, e2, e3⟩ | rfl⟩
      · refine TL.ownNil 58 32 ?_
        refine S.q rfl rfl (Qt.move (by conv => lhs; whnf)) ?_
        refine S.q rfl rfl (Qt.extract rfl rfl) ?_
        refine S.q rfl rfl (Qt.extract rfl rfl) ?_
        refine S.opN rfl (OpV.storeV3 rfl (by conv => lhs; whnf) (by exact Try.cells45) (by rfl) (by rfl) ?_)
        refine S.q rfl rfl (Qt.assign (by conv => lhs; whnf)) ?_
        refine S.nil ?_
        refine TC.seq ?_
        refine TC.region ?_
        refine S.q rfl rfl (Qt.load rfl (Ld.all (vs := vl (.agg #[.int .u64 ((n : Nat) : Int), .slice A2 (trimD n ls xs).2.length c2])) (Has.at 3 rfl) Try.row45 Try.cells45)) ?_
        refine S.q rfl rfl (Qt.move (by conv => lhs; whnf)) ?_
        refine S.q rfl rfl (Qt.move (by conv => lhs; whnf)) ?_
        refine S.opN rfl (OpV.storeV1 rfl (by conv => lhs; whnf) (by exact Try.cells45) (by rfl) (by rfl) ?_)
        refine S.q rfl rfl (Qt.assign (by conv => lhs; whnf)) ?_
        refine S.q rfl rfl (Qt.assign (by conv => lhs; whnf)) ?_
        refine S.nil ?_
        refine TC.ret ?_
        refine finQ.ret (RVs.cell rfl (Ld.all (Has.at 1 rfl) Try.row45 (Try.cells45)) (RVs.tmp (by conv => lhs; whnf) (RVs.tmp (by conv => lhs; whnf) RVs.nil))) (Sub.keep _ (Sub.drop _ (Sub.drop _ (Sub.drop _ (Sub.nil []))))) ?_
        rw [doD, if_neg h21, if_pos h32]
        exact ⟨A2, c2, none, 0, [], rfl, .inl ⟨rfl, e1, e2, e3⟩, rfl⟩
      · refine TL.ownNil 58 32 ?_
        refine S.q rfl rfl (Qt.move (by conv => lhs; whnf)) ?_
        refine S.q rfl rfl (Qt.extract rfl rfl) ?_
        refine S.q rfl rfl (Qt.extract rfl rfl) ?_
        refine S.opN rfl (OpV.storeV4 rfl (by conv => lhs; whnf) (by exact Try.cells45) (by rfl) (by rfl) ?_)
        refine S.q rfl rfl (Qt.assign (by conv => lhs; whnf)) ?_
        refine S.nil ?_
        refine TC.seq ?_
        refine TC.region ?_
        refine S.q rfl rfl (Qt.load rfl (Ld.all (vs := vl (.agg #[.int .u64 ((n : Nat) : Int), .slice A2 (trimD n ls xs).2.length c2])) (Has.at 4 rfl) Try.row45 Try.cells45)) ?_
        refine S.q rfl rfl (Qt.move (by conv => lhs; whnf)) ?_
        refine S.q rfl rfl (Qt.move (by conv => lhs; whnf)) ?_
        refine S.opN rfl (OpV.storeV2 rfl (by conv => lhs; whnf) (by exact Try.cells45) (by rfl) (by rfl) ?_)
        refine S.q rfl rfl (Qt.assign (by conv => lhs; whnf)) ?_
        refine S.q rfl rfl (Qt.assign (by conv => lhs; whnf)) ?_
        refine S.nil ?_
        refine TC.ret ?_
        refine finQ.ret (RVs.cell rfl (Ld.all (Has.at 2 rfl) Try.row45 (Try.cells45)) (RVs.tmp (by conv => lhs; whnf) (RVs.tmp (by conv => lhs; whnf) RVs.nil))) (Sub.keep _ (Sub.keep _ (Sub.drop _ (Sub.drop _ (Sub.drop _ (Sub.nil [])))))) ?_
        rw [doD, if_neg h21, if_pos h32]
        exact ⟨A2, c2, none, 0, _, rfl, .inr rfl, rfl⟩
    · refine S.q rfl rfl (Qt.assign (by conv => lhs; whnf)) ?_
      refine S.nil ?_
      refine S.if_f rfl ?_
      refine TC.seq ?_
      refine TC.region ?_
      refine S.dec rfl rfl (Qt.eq (b := 2) rfl rfl) (fun h41 => ?_) (fun h41 => ?_)
      · refine S.q rfl rfl (Qt.assign (by conv => lhs; whnf)) ?_
        refine S.nil ?_
        refine S.if_t rfl ?_
        refine TC.region ?_
        refine S.q rfl rfl (Qt.load rfl (Ld.all (vs := vl (.agg #[.int .u64 (n : Int), .slice Al ls.length cl])) (Has.at 2 rfl) Try.row45 Try.cells45)) ?_
        refine S.q rfl rfl (Qt.field Try.underlying26 rfl Try.cells22 rfl) ?_
        refine S.q rfl rfl (Qt.load rfl (Ld.one (Has.at 1 rfl) Try.one22 (rfl))) ?_
        refine S.opS rfl rfl (OpV.con (Pre := []) (R := _) Try.ent33 rfl (List.Perm.refl _) (fun w hw => rread_walk n ls Al cl A c xs hc hm w (by omega) (Rd.ro hL w hw) (Rd.ro hR w hw)) ?_)
        rintro v L' ⟨O, e, rfl, rfl⟩
        refine S.q rfl rfl (Qt.move (by conv => lhs; whnf)) ?_
        refine S.q rfl rfl (Qt.extract rfl rfl) ?_
        refine S.q rfl rfl (Qt.extract rfl rfl) ?_
        refine S.q rfl rfl (Qt.assign (by conv => lhs; whnf)) ?_
        refine S.q rfl rfl (Qt.assign (by conv => lhs; whnf)) ?_
        refine S.nil ?_
        refine TC.seq ?_
        refine TC.region ?_
        refine S.q rfl rfl (Qt.load rfl (Ld.all (vs := vl (.agg #[.int .u64 (n : Int), .slice Al ls.length cl])) (Has.at 3 rfl) Try.row45 Try.cells45)) ?_
        refine S.q rfl rfl (Qt.move (by conv => lhs; whnf)) ?_
        refine S.q rfl rfl (Qt.move (by conv => lhs; whnf)) ?_
        refine S.opN rfl (OpV.storeV1 rfl (by conv => lhs; whnf) (by exact Try.cells45) (by rfl) (by rfl) ?_)
        refine S.q rfl rfl (Qt.assign (by conv => lhs; whnf)) ?_
        refine S.q rfl rfl (Qt.assign (by conv => lhs; whnf)) ?_
        refine S.nil ?_
        refine TC.ret ?_
        refine finQ.ret (RVs.cell rfl (Ld.all (Has.at 1 rfl) Try.row45 (Try.cells45)) (RVs.tmp (by conv => lhs; whnf) (RVs.tmp (by conv => lhs; whnf) RVs.nil))) (Sub.keep _ (Sub.drop _ (Sub.drop _ (Sub.drop _ (Sub.nil []))))) ?_
        rw [doD, if_neg h21, if_neg h32, if_pos h41]
        exact ⟨Al, cl, O, e, [], rfl, .inl ⟨rfl, rfl, rfl, rfl⟩, rfl⟩
      · refine S.q rfl rfl (Qt.assign (by conv => lhs; whnf)) ?_
        refine S.nil ?_
        refine S.if_f rfl ?_
        refine TC.seq ?_
        refine TC.region ?_
        refine S.dec rfl rfl (Qt.eq (b := 3) rfl rfl) (fun h50 => ?_) (fun h50 => ?_)
        · refine S.q rfl rfl (Qt.assign (by conv => lhs; whnf)) ?_
          refine S.nil ?_
          refine S.if_t rfl ?_
          refine TC.region ?_
          refine S.q rfl rfl (Qt.load rfl (Ld.all (vs := vl (.agg #[.int .u64 (n : Int), .slice Al ls.length cl])) (Has.at 2 rfl) Try.row45 Try.cells45)) ?_
          refine S.q rfl rfl (Qt.field Try.underlying26 rfl Try.cells24 rfl) ?_
          refine S.q rfl rfl (Qt.load rfl (Ld.one (Has.at 1 rfl) Try.one24 (rfl))) ?_
          refine S.q rfl rfl (Qt.field Try.underlying26 rfl Try.cells3 rfl) ?_
          refine S.q rfl rfl (Qt.load rfl (Ld.one (v := .int .i64 q) (Has.at 1 rfl) Try.one3 rfl)) ?_
          refine S.opS rfl rfl (OpV.con (Pre := []) (R := _) Try.ent34 rfl (List.Perm.refl _) (fun w hw => rspan_walk n ls Al cl f q hn hq w (by omega) (Rd.ro hL w hw)) ?_)
          rintro v L' ⟨O, e, rfl, rfl⟩
          refine S.q rfl rfl (Qt.move (by conv => lhs; whnf)) ?_
          refine S.q rfl rfl (Qt.extract rfl rfl) ?_
          refine S.q rfl rfl (Qt.extract rfl rfl) ?_
          refine S.q rfl rfl (Qt.assign (by conv => lhs; whnf)) ?_
          refine S.q rfl rfl (Qt.assign (by conv => lhs; whnf)) ?_
          refine S.nil ?_
          refine TC.seq ?_
          refine TC.region ?_
          refine S.q rfl rfl (Qt.load rfl (Ld.all (vs := vl (.agg #[.int .u64 (n : Int), .slice Al ls.length cl])) (Has.at 3 rfl) Try.row45 Try.cells45)) ?_
          refine S.q rfl rfl (Qt.move (by conv => lhs; whnf)) ?_
          refine S.q rfl rfl (Qt.move (by conv => lhs; whnf)) ?_
          refine S.opN rfl (OpV.storeV1 rfl (by conv => lhs; whnf) (by exact Try.cells45) (by rfl) (by rfl) ?_)
          refine S.q rfl rfl (Qt.assign (by conv => lhs; whnf)) ?_
          refine S.q rfl rfl (Qt.assign (by conv => lhs; whnf)) ?_
          refine S.nil ?_
          refine TC.ret ?_
          refine finQ.ret (RVs.cell rfl (Ld.all (Has.at 1 rfl) Try.row45 (Try.cells45)) (RVs.tmp (by conv => lhs; whnf) (RVs.tmp (by conv => lhs; whnf) RVs.nil))) (Sub.keep _ (Sub.drop _ (Sub.drop _ (Sub.drop _ (Sub.nil []))))) ?_
          rw [doD, if_neg h21, if_neg h32, if_neg h41, if_pos h50]
          exact ⟨Al, cl, O, e, [], rfl, .inl ⟨rfl, rfl, rfl, rfl⟩, rfl⟩
        · refine S.q rfl rfl (Qt.assign (by conv => lhs; whnf)) ?_
          refine S.nil ?_
          refine S.if_f rfl ?_
          refine TC.region ?_
          refine S.q rfl rfl (Qt.load rfl (Ld.all (vs := vl (.agg #[.int .u64 (n : Int), .slice Al ls.length cl])) (Has.at 2 rfl) Try.row45 Try.cells45)) ?_
          refine S.q rfl rfl (Qt.field Try.underlying26 rfl Try.cells24 rfl) ?_
          refine S.q rfl rfl (Qt.load rfl (Ld.one (Has.at 1 rfl) Try.one24 (rfl))) ?_
          refine S.opS rfl rfl (OpV.con (Pre := []) (R := _) Try.ent35 rfl (List.Perm.refl _) (fun w hw => rresize_walk n ls Al cl f w (by omega) (Rd.ro hL w hw)) ?_)
          rintro v L' ⟨A2, c2, rfl, ⟨rfl, e1, e2, e3⟩ | rfl⟩
          · refine TL.ownNil 58 32 ?_
            refine S.q rfl rfl (Qt.move (by conv => lhs; whnf)) ?_
            refine S.q rfl rfl (Qt.extract rfl rfl) ?_
            refine S.q rfl rfl (Qt.extract rfl rfl) ?_
            refine S.opN rfl (OpV.storeV3 rfl (by conv => lhs; whnf) (by exact Try.cells45) (by rfl) (by rfl) ?_)
            refine S.q rfl rfl (Qt.assign (by conv => lhs; whnf)) ?_
            refine S.nil ?_
            refine TC.seq ?_
            refine TC.region ?_
            refine S.q rfl rfl (Qt.load rfl (Ld.all (vs := vl (.agg #[.int .u64 (((resizeD n ls f).2.1 : Nat) : Int), .slice A2 (resizeD n ls f).2.2.length c2])) (Has.at 3 rfl) Try.row45 Try.cells45)) ?_
            refine S.q rfl rfl (Qt.move (by conv => lhs; whnf)) ?_
            refine S.q rfl rfl (Qt.move (by conv => lhs; whnf)) ?_
            refine S.opN rfl (OpV.storeV1 rfl (by conv => lhs; whnf) (by exact Try.cells45) (by rfl) (by rfl) ?_)
            refine S.q rfl rfl (Qt.assign (by conv => lhs; whnf)) ?_
            refine S.q rfl rfl (Qt.assign (by conv => lhs; whnf)) ?_
            refine S.nil ?_
            refine TC.ret ?_
            refine finQ.ret (RVs.cell rfl (Ld.all (Has.at 1 rfl) Try.row45 (Try.cells45)) (RVs.tmp (by conv => lhs; whnf) (RVs.tmp (by conv => lhs; whnf) RVs.nil))) (Sub.keep _ (Sub.drop _ (Sub.drop _ (Sub.drop _ (Sub.nil []))))) ?_
            rw [doD, if_neg h21, if_neg h32, if_neg h41, if_neg h50]
            exact ⟨A2, c2, none, 0, [], rfl, .inl ⟨rfl, e1, e2, e3⟩, rfl⟩
          · refine TL.ownNil 58 32 ?_
            refine S.q rfl rfl (Qt.move (by conv => lhs; whnf)) ?_
            refine S.q rfl rfl (Qt.extract rfl rfl) ?_
            refine S.q rfl rfl (Qt.extract rfl rfl) ?_
            refine S.opN rfl (OpV.storeV4 rfl (by conv => lhs; whnf) (by exact Try.cells45) (by rfl) (by rfl) ?_)
            refine S.q rfl rfl (Qt.assign (by conv => lhs; whnf)) ?_
            refine S.nil ?_
            refine TC.seq ?_
            refine TC.region ?_
            refine S.q rfl rfl (Qt.load rfl (Ld.all (vs := vl (.agg #[.int .u64 (((resizeD n ls f).2.1 : Nat) : Int), .slice A2 (resizeD n ls f).2.2.length c2])) (Has.at 4 rfl) Try.row45 Try.cells45)) ?_
            refine S.q rfl rfl (Qt.move (by conv => lhs; whnf)) ?_
            refine S.q rfl rfl (Qt.move (by conv => lhs; whnf)) ?_
            refine S.opN rfl (OpV.storeV2 rfl (by conv => lhs; whnf) (by exact Try.cells45) (by rfl) (by rfl) ?_)
            refine S.q rfl rfl (Qt.assign (by conv => lhs; whnf)) ?_
            refine S.q rfl rfl (Qt.assign (by conv => lhs; whnf)) ?_
            refine S.nil ?_
            refine TC.ret ?_
            refine finQ.ret (RVs.cell rfl (Ld.all (Has.at 2 rfl) Try.row45 (Try.cells45)) (RVs.tmp (by conv => lhs; whnf) (RVs.tmp (by conv => lhs; whnf) RVs.nil))) (Sub.keep _ (Sub.keep _ (Sub.drop _ (Sub.drop _ (Sub.drop _ (Sub.nil [])))))) ?_
            rw [doD, if_neg h21, if_neg h32, if_neg h41, if_neg h50]
            exact ⟨A2, c2, none, 0, _, rfl, .inr rfl, rfl⟩
set_option maxHeartbeats 400000 in
theorem new_bad_walk (n : Nat) (h : ¬ (1 ≤ n ∧ n ≤ 4294967296)) (w0 : World) :
    Calls Try.prog 14 #[.int .u64 (n : Int)] w0 (Post w0 [] fun v L => v = .tuple #[.pointer none, errv 42 1] ∧ L = []) := by
  refine Calls.of (L := []) (n := 12) (rs := [.tmp 2, .tmp 3]) Try.func14 rfl rfl rfl (Nat.le_of_ble_eq_true rfl) (Sat.nil _) ?_
  refine TC.seq ?_
  refine TC.region ?_
  refine S.q rfl rfl (Qt.assign (by conv => lhs; whnf)) ?_
  refine S.q rfl rfl (Qt.assign (by conv => lhs; whnf)) ?_
  refine S.nil ?_
  refine TC.seq ?_
  refine TC.seq ?_
  refine TC.region ?_
  refine S.q rfl rfl (Qt.move (by conv => lhs; whnf)) ?_
  refine S.opS rfl rfl (OpV.con0 Try.ent29 rfl (fun w hw => new_bad_sized n h w) ?_)
  refine S.q rfl rfl (Qt.not_f rfl) ?_
  refine S.nil ?_
  refine S.if_t rfl ?_
  refine TC.seq ?_
  refine TC.region ?_
  refine S.q rfl rfl (Qt.makeInterface Try.underlying42 (fun _ h => nomatch h) (by conv => lhs; whnf)) ?_
  refine S.q rfl rfl (Qt.assign (by conv => lhs; whnf)) ?_
  refine S.q rfl rfl (Qt.assign (by conv => lhs; whnf)) ?_
  refine S.nil ?_
  refine TC.ret ?_
  refine finQ.ret (RVs.tmp (by conv => lhs; whnf) (RVs.tmp (by conv => lhs; whnf) RVs.nil)) (Sub.nil _) ?_
  exact ⟨rfl, rfl⟩
end Go.Proofs.Ytaoicbjgkghnnaa
