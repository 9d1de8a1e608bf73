/-
  Walks: a tree's leaves in their order. Printed by a program of ours. Walks: a tree's copy; whether a tree is the document's. Printed by a program of ours. Walks: a tree for another number of blocks. Printed by a program of ours.
-/
import Derived.Test.YtlneklemjfefpaaDoorW3
import Derived.Test.YtlneklemjfefpaaDoorP3
import Derived.Test.YtlneklemjfefpaaDoorE3
import Derived.Test.YtlneklemjfefpaaDoorFX
import Derived.Test.YtlneklemjfefpaaDoorT2
import Derived.Test.YtlneklemjfefpaaDoorE2
import Derived.Test.YtlneklemjfefpaaDoorT3
namespace Go.Proofs.YtlneklemjfefpaaDoor
open Go.E
set_option linter.unusedVariables false
set_option maxRecDepth 4000
theorem Tryd.zero153 : zeroOf Tryd.prog 153 = some ([.int .i64 0] ++ [.int .u64 0]) := by kernel_rfl
theorem encAt_inj {a b : Nat × Nat} (h : encAt a = encAt b) : a = b := by
  obtain ⟨a1, a2⟩ := a
  obtain ⟨b1, b2⟩ := b
  unfold encAt at h
  simp only [Value.agg.injEq, Array.mk.injEq, List.cons.injEq, Value.int.injEq, true_and, and_true] at h
  obtain ⟨h1, h2⟩ := h
  rw [show a1 = b1 by omega, show a2 = b2 by omega]
theorem lv_len {ms : Tm} {done : List (Nat × Nat)} (h1 : done.Nodup) (h2 : ∀ x ∈ done, x ∈ keysOf ms) : (lv0 done).length ≤ (lv0 (keysOf ms)).length := nodup_len (lv0_nodup h1) fun x hx => lv0_mem.2 (h2 _ (lv0_mem.1 hx))
theorem lv_all {ms : Tm} {done : List (Nat × Nat)} (hn : (keysOf ms).Nodup) (h1 : done.Nodup) (h2 : ∀ x ∈ done, x ∈ keysOf ms) (h3 : ∀ p ∈ ms, p.1 ∈ done) : srt (lv0 done) = lvT ms :=
  lvT_of ((List.perm_ext_iff_of_nodup h1 hn).2 fun x => ⟨h2 x, fun hx => by obtain ⟨p, hp, rfl⟩ := List.mem_map.1 hx; exact h3 p hp⟩)
theorem ro_nodup {w : World} {M : List Nat} {b : Nat} {ms : Tm} (h : Ro w M (MapA b encAt hv (ms))) : (keysOf ms).Nodup := by
  obtain ⟨⟨es, clock, _, _, _, _, hn⟩, _⟩ := h
  exact hn
theorem srt_len (xs : List Nat) : (srt xs).length = xs.length := (srt_perm xs).length_eq
theorem u64s_snoc (xs : List Nat) (x : Nat) : u64s (xs ++ [x]) = u64s xs ++ [.int .u64 ((x : Nat) : Int)] := by simp [u64s]
set_option maxHeartbeats 800000 in
theorem leaves_walk (E : Nat → H32) (tb mb height : Nat) (ms : Tm) (hn : (lv0 (keysOf ms)).length < 4294967296) (w0 : World) (hB : Ro w0 [] (Blk tb 150 (treeCs E height mb))) (hM : Ro w0 [] (MapA mb encAt hv (ms))) :
    Calls Tryd.prog 119 #[.pointer (some ⟨tb, 0, none⟩)] w0 (Post w0 [] fun v L => ∃ O d, v = .slice O (lvT ms).length d ∧ L = [OwnA 24 1 O (lvT ms).length d (u64s (lvT ms))]) := by
  refine Calls.of (L := []) (n := 27) (rs := [.tmp 2]) Tryd.func119 rfl rfl rfl (Nat.le_of_ble_eq_true rfl) (Sat.nil _) ?_
  have hnd := ro_nodup hM
  refine TC.ownNil 24 1 ?_
  refine TC.seq ?_
  refine TC.region ?_
  refine S.q rfl rfl (Qt.assign (by conv => lhs; whnf)) ?_
  refine S.nil ?_
  refine TC.seq ?_
  refine TC.seq ?_
  refine TC.region ?_
  refine S.q rfl rfl (Qt.move (by conv => lhs; whnf)) ?_
  refine S.q rfl rfl (Qt.eqp_some Tryd.underlying35 rfl) ?_
  refine S.nil ?_
  refine S.if_f rfl ?_
  refine TC.skip ?_
  refine TC.seq ?_
  refine TC.region ?_
  refine S.q rfl rfl (Qt.assign (by conv => lhs; whnf)) ?_
  refine S.nil ?_
  refine TC.seq ?_
  refine TC.seq ?_
  refine TC.region ?_
  refine S.q rfl rfl (Qt.move (by conv => lhs; whnf)) ?_
  refine S.q rfl rfl (Qt.nilCheck rfl) ?_
  refine S.q rfl rfl (Qt.field Tryd.underlying150 rfl Tryd.cells148 rfl) ?_
  refine S.q rfl rfl (Qt.load rfl (Ld.one (v := .map (some mb)) (Has.ro hB) Tryd.one148 rfl)) ?_
  refine S.opS rfl rfl (OpV.rangeR Tryd.underlying148 rfl hM (fun it clock es hr => ?_))
  refine S.nil ?_
  refine TC.block ?_
  refine TC.loop (γ := List (Nat × Nat) × Option Addr × Nat) [12, 13, 14, 15, 4, 16, 17, 18, 19, 20, 21, 22, 23, 3] (fun g => [(3, .slice g.2.1 (lv0 g.1).length g.2.2)]) (fun g => [ItR it mb clock es encAt hv (ms) g.1, OwnA 24 1 g.2.1 (lv0 g.1).length g.2.2 (u64s (lv0 g.1))]) (fun g => g.1.Nodup ∧ ∀ x ∈ g.1, x ∈ keysOf ms) (fun g => ms.length - g.1.length) (([], none, 0))
    ⟨List.nodup_nil, (fun _ h => nomatch h)⟩ ⟨Out.refl _ _, (List.forall_mem_cons.2 ⟨rfl, (fun _ h => nomatch h)⟩)⟩ (Sub.refl _) ?_
  rintro ⟨done, O, d⟩ u ⟨hi1, hi2⟩
  dsimp only at hi1 hi2
  show TC _ _ _ (puts [(3, .slice O (lv0 done).length d)] (scr _ u _)) [ItR it mb clock es encAt hv (ms) done, OwnA 24 1 O (lv0 done).length d (u64s (lv0 done))]
  have hdl : (lv0 done).length < 4294967296 := Nat.lt_of_le_of_lt (lv_len hi1 hi2) hn
  refine TC.seq ?_
  refine TC.region ?_
  refine S.opS rfl rfl (OpV.nextR0 (fun _ _ h => encAt_inj h) hr rfl (fun hend => ?_) (fun x a hm hd => ?_))
  · refine S.q rfl rfl (Qt.extract rfl rfl) ?_
    refine S.nil ?_
    refine TC.seq ?_
    refine S.if_f rfl ?_
    refine TC.exit ?_
    refine TC.seq ?_
    refine TC.region ?_
    refine S.q rfl rfl (Qt.move (by conv => lhs; whnf)) ?_
    refine S.opS rfl rfl (OpV.con (Pre := [OwnA 24 1 O (lv0 done).length d (u64s (lv0 done))]) (R := _) Tryd.ent140 rfl (List.perm_middle (l₁ := [_])) (fun w hw => sort_own O (lv0 done).length d (lv0 done) hdl w hw.sat.left) ?_)
    rintro v L' ⟨rfl, rfl⟩
    refine S.nil ?_
    refine TC.seq ?_
    refine TC.region ?_
    refine S.q rfl rfl (Qt.move (by conv => lhs; whnf)) ?_
    refine S.q rfl rfl (Qt.assign (by conv => lhs; whnf)) ?_
    refine S.nil ?_
    refine TC.ret ?_
    refine finQ.ret (RVs.tmp (by conv => lhs; whnf) RVs.nil) (Sub.keep _ (Sub.drop _ (Sub.nil []))) ?_
    have hall := lv_all hnd hi1 hi2 hend
    have hll := srt_len (lv0 done)
    rw [hall] at hll ⊢
    rw [← hll]
    exact ⟨O, d, rfl, rfl⟩
  · refine S.q rfl rfl (Qt.extract rfl rfl) ?_
    refine S.nil ?_
    refine TC.seq ?_
    refine S.if_t rfl ?_
    refine TC.skip ?_
    refine TC.block ?_
    refine TC.seq ?_
    refine TC.region ?_
    refine S.q rfl rfl (Qt.entryR hr rfl (Has.at 0 rfl) hm) ?_
    refine S.q rfl rfl (Qt.extract rfl rfl) ?_
    refine S.opS rfl rfl (OpV.alloc Tryd.zero153 (fun b4 => ?_))
    refine S.opN rfl (OpV.storeV0 (v := encAt x) rfl rfl (by exact Tryd.cells153) (by rfl) (by rfl) ?_)
    refine S.nil ?_
    refine TC.seq ?_
    refine TC.region ?_
    refine S.q rfl rfl (Qt.field Tryd.underlying153 rfl Tryd.cells3 rfl) ?_
    refine S.q rfl rfl (Qt.load rfl (Ld.one (v := .int .i64 ((x.1 : Nat) : Int)) (Has.at 0 rfl) Tryd.one3 rfl)) ?_
    refine S.dec rfl rfl (Qt.eq (b := 0) rfl rfl) (fun h18 => ?_) (fun h18 => ?_)
    · refine S.nil ?_
      refine S.if_t rfl ?_
      refine TC.region ?_
      refine S.q rfl rfl (Qt.move (by conv => lhs; whnf)) ?_
      refine S.q rfl rfl (Qt.field Tryd.underlying153 rfl Tryd.cells24 rfl) ?_
      refine S.q rfl rfl (Qt.load rfl (Ld.one (v := .int .u64 ((x.2 : Nat) : Int)) (Has.at 0 rfl) Tryd.one24 rfl)) ?_
      refine S.opS rfl rfl (OpV.slice1 (bytes := 8) (v := .int .u64 ((x.2 : Nat) : Int)) Tryd.underlying71 Tryd.elem24 (by decide) rfl rfl (fun g22 => ?_))
      refine S.opS rfl rfl (OpV.app3 (bytes := 8) (news := [.int .u64 ((x.2 : Nat) : Int)]) Tryd.underlying71 Tryd.elem24 rfl rfl (Has.blk (Has.at 0 rfl)) rfl (by intro u hu; rw [List.mem_singleton.1 hu]; rfl) (by simp only [maxLen]; omega) (by omega) (fun O' d' => ?_))
      refine S.q rfl rfl (Qt.assign (by conv => lhs; whnf)) ?_
      refine S.nil ?_
      refine ⟨(done ++ [x], O', d'), ?_, ?_, ⟨?_, (List.forall_mem_cons.2 ⟨(by show Value.slice O' ((lv0 done).length + 1) d' = Value.slice O' (lv0 (done ++ [x])).length d'; rw [lv0_snoc, if_pos h18, len_snoc]), (fun _ h => nomatch h)⟩)⟩, (by dsimp only; rw [lv0_snoc, if_pos h18, len_snoc, u64s_snoc]; exact Sub.trans (Sub.keep _ (Sub.keep _ (Sub.drop _ (Sub.drop _ (Sub.nil []))))) (Sub.trans (Sub.keep _ (Sub.trans (Sub.keep _ (Sub.refl _)) (Sub.of_perm (List.perm_middle (l₁ := [_, _]))))) (Sub.of_perm (List.perm_middle (l₁ := [_, _])))))⟩
      · exact (done_step hi1 hi2 hm hd).1
      · exact (done_step hi1 hi2 hm hd).2
      repeat (first | exact Out.refl _ _ | refine Out.put rfl ?_ | refine Out.puts rfl ?_ | refine Out.scr ?_ | refine Out.scr' rfl ?_)
    · refine S.nil ?_
      refine S.if_f rfl ?_
      refine TC.skip ?_
      refine ⟨(done ++ [x], O, d), ?_, ?_, ⟨?_, (List.forall_mem_cons.2 ⟨(by show Value.slice O (lv0 done).length d = Value.slice O (lv0 (done ++ [x])).length d; rw [lv0_snoc, if_neg h18]), (fun _ h => nomatch h)⟩)⟩, (by dsimp only; rw [lv0_snoc, if_neg h18]; exact Sub.trans (Sub.keep _ (Sub.keep _ (Sub.drop _ (Sub.nil [])))) (Sub.trans (Sub.keep _ (Sub.trans (Sub.keep _ (Sub.refl _)) (Sub.of_perm (List.perm_middle (l₁ := [_]))))) (Sub.of_perm (List.perm_middle (l₁ := [_])))))⟩
      · exact (done_step hi1 hi2 hm hd).1
      · exact (done_step hi1 hi2 hm hd).2
      repeat (first | exact Out.refl _ _ | refine Out.put rfl ?_ | refine Out.puts rfl ?_ | refine Out.scr ?_ | refine Out.scr' rfl ?_)
set_option maxHeartbeats 400000 in
theorem all84_walk (tb : Nat) (w0 : World) :
    Calls Tryd.prog 84 #[.pointer (some ⟨tb, 0, none⟩)] w0 (Post w0 [] fun v L => ∃ b, v = .func (.func 121) #[] #[.pointer (some ⟨b, 0, none⟩)] ∧ L = [Blk b 35 [.pointer (some ⟨tb, 0, none⟩)]]) := by
  refine Calls.of (L := []) (n := 4) (rs := [.tmp 2]) Tryd.func84 rfl rfl rfl (Nat.le_of_ble_eq_true rfl) (Sat.nil _) ?_
  refine TC.seq ?_
  refine TC.region ?_
  refine S.opS rfl rfl (OpV.box (by conv => lhs; whnf) (fun b1 => ?_))
  refine S.q rfl rfl (Qt.assign (by conv => lhs; whnf)) ?_
  refine S.nil ?_
  refine TC.seq ?_
  refine TC.region ?_
  refine S.q rfl rfl (Qt.makeFuncL (fs := []) (cs := [.pointer (some ⟨b1, 0, none⟩)]) rfl rfl) ?_
  refine S.q rfl rfl (Qt.assign (by conv => lhs; whnf)) ?_
  refine S.nil ?_
  refine TC.ret ?_
  refine finQ.ret (RVs.tmp (by conv => lhs; whnf) RVs.nil) (Sub.refl _) ?_
  exact ⟨_, rfl, rfl⟩
set_option maxHeartbeats 800000 in
theorem gen121_walk (E : Nat → H32) (tb mb height : Nat) (ms : Tm) (hn : (lv0 (keysOf ms)).length < 4294967296) (vs : List Nat) (hvs : vs = lvT ms) (n : Nat) (hvn : vs.length = n) (b1 l : Nat) (J : Bool → List (Fin n) → List Assn → Prop) (w0 : World) (L0 : List Assn) (h0 : Sat w0 L0) (hJ : J true [] L0) (hB : Ro w0 (fps L0) (Blk tb 150 (treeCs E height mb))) (hM : Ro w0 (fps L0) (MapA mb encAt hv (ms))) (hP : Ro w0 (fps L0) (Blk b1 35 [.pointer (some ⟨tb, 0, none⟩)]))
    (hY : ∀ pre x w' L', (fun ys : List (Fin n) => ∃ j, j ≤ n ∧ ys = (List.finRange n).take j) (pre ++ [x]) → J true pre L' → St w0 (fps L0) L' w' → YieldAt Fence.wide 0 Tryd.prog l ((fun i : Fin n => [Value.int .u64 ((vs.getD i.val 0 : Nat) : Int), hv (getT E ms (0, vs.getD i.val 0))]) x).toArray w' fun e w'' => ∃ L'', St w' (fps L') L'' w'' ∧ ((e = .returned (.bool true) ∧ J true (pre ++ [x]) L'') ∨ (e = .returned (.bool false) ∧ J false (pre ++ [x]) L''))) :
    Calls Tryd.prog 121 #[.func (.yield l) #[] #[], .pointer (some ⟨b1, 0, none⟩)] w0 (Post w0 (fps L0) fun v L => (∃ ys, ys = List.finRange n ∧ J true ys L) ∨ (∃ pre, True ∧ J false pre L)) := by
  refine Calls.of (L := L0) (n := 21) (rs := []) Tryd.func121 rfl rfl rfl (Nat.le_of_ble_eq_true rfl) (h0) ?_
  have hnn : n < 4294967296 := by rw [← hvn, hvs, lvT, srt_len]; exact hn
  refine TC.seq ?_
  refine TC.region ?_
  refine S.q rfl rfl (Qt.load rfl (Ld.one (Has.ro hP) Tryd.one35 rfl)) ?_
  refine S.opS rfl rfl (OpV.con (Pre := []) (R := L0) Tryd.ent119 rfl (List.Perm.refl _) (fun w hw => leaves_walk E tb mb height ms hn w (Ro.of_pre (Pre := []) hw hB) (Ro.of_pre (Pre := []) hw hM)) ?_)
  rintro v L' ⟨O, d, rfl, rfl⟩
  rw [← hvs, hvn]
  show TL _ _ _ _ (Env.put _ _ (.slice O n d)) (OwnA 24 1 O n d (u64s vs) :: L0)
  refine S.q rfl rfl (Qt.len_slice Tryd.underlying71 rfl) ?_
  refine S.q rfl rfl (Qt.move (by conv => lhs; whnf)) ?_
  refine S.nil ?_
  refine TC.block ?_
  refine TC.loop (γ := Nat × List Assn) [9, 10, 11, 4, 12, 13, 14, 15, 16, 17, 18, 19, 20, 8] (fun g => [(8, .int .i64 ((g.1 : Nat) : Int))]) (fun g => OwnA 24 1 O n d (u64s vs) :: g.2) (fun g => g.1 ≤ n ∧ J true ((List.finRange n).take g.1) g.2) (fun g => n - g.1) ((0, L0))
    ⟨Nat.zero_le _, hJ⟩ ⟨Out.refl _ _, (List.forall_mem_cons.2 ⟨rfl, (fun _ h => nomatch h)⟩)⟩ (Sub.refl _) ?_
  rintro ⟨k, Z⟩ u ⟨hk, hj⟩
  dsimp only at hk hj
  show TC _ _ _ (puts [(8, .int .i64 ((k : Nat) : Int))] (scr _ u _)) (OwnA 24 1 O n d (u64s vs) :: Z)
  refine TC.seq ?_
  refine TC.region ?_
  refine S.dec rfl rfl (Qt.lt rfl rfl) (fun h9 => ?_) (fun h9 => ?_)
  · refine S.nil ?_
    refine TC.seq ?_
    refine S.if_t rfl ?_
    refine TC.skip ?_
    refine TC.seq ?_
    refine TC.block ?_
    refine TC.seq ?_
    refine TC.region ?_
    have hkm : k < n := h9
    refine S.q rfl rfl (Qt.index Tryd.underlying71 Tryd.cells24 rfl rfl (by omega) (Has.own (Has.at 0 rfl)) (by rw [u64s_len]; omega)) ?_
    refine S.q rfl rfl (Qt.load rfl (Ld.sl (Has.own (Has.at 0 rfl)) Tryd.one24 (u64s_get1 (by omega)))) ?_
    refine S.q rfl rfl (Qt.assign (by conv => lhs; whnf)) ?_
    refine S.nil ?_
    refine TC.seq ?_
    refine TC.region ?_
    refine S.q rfl rfl (Qt.move (by conv => lhs; whnf)) ?_
    refine S.q rfl rfl (Qt.move (by conv => lhs; whnf)) ?_
    refine S.q rfl rfl (Qt.load rfl (Ld.one (Has.ro hP) Tryd.one35 rfl)) ?_
    refine S.q rfl rfl (Qt.move (by conv => lhs; whnf)) ?_
    refine S.q rfl rfl (Qt.build2 (a := .int .i64 0) (b := .int .u64 ((vs.getD k 0 : Nat) : Int)) (v := encAt (0, vs.getD k 0)) rfl rfl (fun _ => by kernel_rfl)) ?_
    refine S.opS rfl rfl (OpV.con0 Tryd.ent94 rfl (fun w hw => get_R E tb mb height ms 0 (vs.getD k 0) (by omega) w (Rd.ro hB w hw) (Rd.ro hM w hw)) ?_)
    refine S.opS rfl rfl (OpV.yield2 (L1 := [OwnA 24 1 O n d (u64s vs)]) (enc := (fun i : Fin n => [Value.int .u64 ((vs.getD i.val 0 : Nat) : Int), hv (getT E ms (0, vs.getD i.val 0))])) ⟨k, hkm⟩ (fun w' L' => hY _ _ w' L' ⟨k + 1, hkm, (finRange_take hkm).symm⟩) rfl rfl hj (fun Z2 hj2 => ?_) (fun Z2 hj2 => ?_))
    · rw [← finRange_take hkm] at hj2
      refine S.q rfl rfl (Qt.not_t rfl) ?_
      refine S.nil ?_
      refine S.if_f rfl ?_
      refine TC.skip ?_
      refine TC.region ?_
      refine S.q rfl rfl (Qt.add (b := 1) rfl rfl (by simp only [kmax]; omega)) ?_
      refine S.q rfl rfl (Qt.move (by conv => lhs; whnf)) ?_
      refine S.nil ?_
      refine ⟨(k + 1, Z2), ?_, ?_, ⟨?_, (List.forall_mem_cons.2 ⟨rfl, (fun _ h => nomatch h)⟩)⟩, Sub.refl _⟩
      · exact ⟨by show _ ≤ _; dsimp only; omega, hj2⟩
      · show _ < _; dsimp only; omega
      repeat (first | exact Out.refl _ _ | refine Out.put rfl ?_ | refine Out.puts rfl ?_ | refine Out.scr ?_ | refine Out.scr' rfl ?_)
    · refine S.q rfl rfl (Qt.not_f rfl) ?_
      refine S.nil ?_
      refine S.if_t rfl ?_
      refine TC.ret ?_
      refine finQ.ret RVs.nil (Sub.drop _ (Sub.refl _)) ?_
      exact .inr ⟨_, trivial, hj2⟩
  · refine S.nil ?_
    refine TC.seq ?_
    refine S.if_f rfl ?_
    refine TC.exit ?_
    refine finQ.normal RVs.nil (Sub.drop _ (Sub.refl _)) ?_
    obtain rfl : k = n := by omega
    rw [finRange_all] at hj
    exact .inl ⟨_, rfl, hj⟩
theorem all_gen (E : Nat → H32) (tb mb height : Nat) (ms : Tm) (hn : (lv0 (keysOf ms)).length < 4294967296) (vs : List Nat) (hvs : vs = lvT ms) (n : Nat) (hvn : vs.length = n) (b1 : Nat) (w : World) (L0 : List Assn) (h0 : Sat w L0) (hB : Ro w (fps L0) (Blk tb 150 (treeCs E height mb))) (hM : Ro w (fps L0) (MapA mb encAt hv (ms))) (hP : Ro w (fps L0) (Blk b1 35 [.pointer (some ⟨tb, 0, none⟩)])) :
    Gen2 Tryd.prog 121 #[.pointer (some ⟨b1, 0, none⟩)] (fun i : Fin n => [Value.int .u64 ((vs.getD i.val 0 : Nat) : Int), hv (getT E ms (0, vs.getD i.val 0))]) (fun ys => ys = List.finRange n) (fun _ => True) (fun ys : List (Fin n) => ∃ j, j ≤ n ∧ ys = (List.finRange n).take j) w L0 := fun l J hJ hY =>
  gen121_walk E tb mb height ms hn vs hvs n hvn b1 l J w L0 h0 hJ hB hM hP hY

end Go.Proofs.YtlneklemjfefpaaDoor
namespace Go.Proofs.YtlneklemjfefpaaDoor
open Go.E
set_option linter.unusedVariables false
set_option maxRecDepth 4000
theorem fin_pre {n j : Nat} {pre : List (Fin n)} {x : Fin n} (h : pre ++ [x] = (List.finRange n).take j) : x.val = pre.length ∧ pre.length < n := by
  have h1 := congrArg List.length h
  rw [len_snoc, List.length_take, List.length_finRange] at h1
  have h2 : (pre ++ [x])[pre.length]? = some x := by simp
  have h3 : pre.length < n := by omega
  rw [h] at h2
  simp [show pre.length < j by omega, h3] at h2
  exact ⟨by rw [← h2], h3⟩
end Go.Proofs.YtlneklemjfefpaaDoor
namespace Go.Proofs.YtlneklemjfefpaaDoor
open Go.E
set_option linter.unusedVariables false
set_option maxRecDepth 4000


set_option maxHeartbeats 400000 in
theorem resize82_walkF (E : Nat → H32) (tb mb height : Nat) (ms : Tm) (b : Nat) (hb : ¬ okN b) (w0 : World) :
    Calls Tryd.prog 82 #[.pointer (some ⟨tb, 0, none⟩), .int .u64 (b : Int)] w0 (Post w0 [] fun v L => v = .tuple #[.pointer none, .iface 58 (.int .i64 1)] ∧ L = []) := by
  refine Calls.of (L := []) (n := 46) (rs := [.cell 4 35, .cell 5 27]) Tryd.func82 rfl rfl rfl (Nat.le_of_ble_eq_true rfl) (Sat.nil _) ?_
  refine TC.seq ?_
  refine TC.region ?_
  refine S.opS rfl rfl (OpV.box (v := .int .u64 (b : Int)) rfl (fun b3 => ?_))
  refine S.opS rfl rfl (OpV.alloc Tryd.zero35 (fun b4 => ?_))
  refine S.opS rfl rfl (OpV.alloc Tryd.zero27 (fun b5 => ?_))
  refine S.nil ?_
  refine TC.seq ?_
  refine TC.seq ?_
  refine TC.region ?_
  refine S.q rfl rfl (Qt.move (by conv => lhs; whnf)) ?_
  refine S.q rfl rfl (Qt.eqp_some Tryd.underlying35 rfl) ?_
  refine S.nil ?_
  refine S.if_f rfl ?_
  refine TC.skip ?_
  refine TC.seq ?_
  refine TC.region ?_
  refine S.q rfl rfl (Qt.load rfl (Ld.one (Has.at 2 rfl) Tryd.one24 rfl)) ?_
  refine S.opS rfl rfl (OpV.con0 Tryd.ent80 rfl (fun w hw => Calls.ret (height_walkF b hb w)) ?_)
  refine S.q rfl rfl (Qt.move (by conv => lhs; whnf)) ?_
  refine S.q rfl rfl (Qt.extract rfl rfl) ?_
  refine S.q rfl rfl (Qt.extract rfl rfl) ?_
  refine S.q rfl rfl (Qt.assign (by conv => lhs; whnf)) ?_
  refine S.q rfl rfl (Qt.assign (by conv => lhs; whnf)) ?_
  refine S.nil ?_
  refine TC.seq ?_
  refine TC.seq ?_
  refine TC.region ?_
  refine S.q rfl rfl (Qt.move (by conv => lhs; whnf)) ?_
  refine S.q rfl rfl (Qt.nenil_iface Tryd.underlying27 rfl) ?_
  refine S.nil ?_
  refine S.if_t rfl ?_
  refine TC.seq ?_
  refine TC.region ?_
  refine S.q rfl rfl (Qt.move (by conv => lhs; whnf)) ?_
  refine S.opN rfl (OpV.storeV1 rfl (by conv => lhs; whnf) (by exact Tryd.cells35) (by rfl) (by rfl) ?_)
  refine S.opN rfl (OpV.storeV0 rfl (by conv => lhs; whnf) (by exact Tryd.cells27) (by rfl) (by rfl) ?_)
  refine S.nil ?_
  refine TC.ret ?_
  refine finQ.ret (RVs.cell rfl (Ld.one (Has.at 1 rfl) Tryd.one35 (rfl)) (RVs.cell rfl (Ld.one (Has.at 0 rfl) Tryd.one27 (rfl)) RVs.nil)) (Sub.nil _) ?_
  exact ⟨rfl, rfl⟩
set_option maxHeartbeats 1600000 in
theorem resize82_walk (E : Nat → H32) (hEm : ∀ w, Tabs 2 0 w [] → Calls Tryd.prog 88 #[] w (Ret w (.agg (hcs (emptL E)).toArray))) (hE : ∀ h, E (h + 1) = joinH (h + 1) (E h) (E h)) (tb mb height : Nat) (ms : Tm) (g : Nat → H32) (ht : TreeOk E height g ms) (hn : (lv0 (keysOf ms)).length < 4294967296) (b : Nat) (hb : okN b) (w0 : World) (hB : Ro w0 [] (Blk tb 150 (treeCs E height mb))) (hM : Ro w0 [] (MapA mb encAt hv (ms))) (hT : Tabs 2 0 w0 []) :
    Calls Tryd.prog 82 #[.pointer (some ⟨tb, 0, none⟩), .int .u64 (b : Int)] w0 (Post w0 [] fun v L => ∃ tb2 m2 ms2, v = .tuple #[.pointer (some ⟨tb2, 0, none⟩), .nilIface] ∧ L = [Blk tb2 150 (treeCs E (hgt b) m2), MapA m2 encAt hv (ms2)] ∧ TreeOk E (hgt b) (cutF E g (lvT ms) b) ms2) := by
  refine Calls.of (L := []) (n := 46) (rs := [.cell 4 35, .cell 5 27]) Tryd.func82 rfl rfl rfl (Nat.le_of_ble_eq_true rfl) (Sat.nil _) ?_
  have hh2 := hgt_le hb
  have hbl := hgt_lt hb
  refine TC.seq ?_
  refine TC.region ?_
  refine S.opS rfl rfl (OpV.box (v := .int .u64 (b : Int)) rfl (fun b3 => ?_))
  refine S.opS rfl rfl (OpV.alloc Tryd.zero35 (fun b4 => ?_))
  refine S.opS rfl rfl (OpV.alloc Tryd.zero27 (fun b5 => ?_))
  refine S.nil ?_
  refine TC.seq ?_
  refine TC.seq ?_
  refine TC.region ?_
  refine S.q rfl rfl (Qt.move (by conv => lhs; whnf)) ?_
  refine S.q rfl rfl (Qt.eqp_some Tryd.underlying35 rfl) ?_
  refine S.nil ?_
  refine S.if_f rfl ?_
  refine TC.skip ?_
  refine TC.seq ?_
  refine TC.region ?_
  refine S.q rfl rfl (Qt.load rfl (Ld.one (Has.at 2 rfl) Tryd.one24 rfl)) ?_
  refine S.opS rfl rfl (OpV.con0 Tryd.ent80 rfl (fun w hw => Calls.ret (height_walkT b hb w)) ?_)
  refine S.q rfl rfl (Qt.move (by conv => lhs; whnf)) ?_
  refine S.q rfl rfl (Qt.extract rfl rfl) ?_
  refine S.q rfl rfl (Qt.extract rfl rfl) ?_
  refine S.q rfl rfl (Qt.assign (by conv => lhs; whnf)) ?_
  refine S.q rfl rfl (Qt.assign (by conv => lhs; whnf)) ?_
  refine S.nil ?_
  refine TC.seq ?_
  refine TC.seq ?_
  refine TC.region ?_
  refine S.q rfl rfl (Qt.move (by conv => lhs; whnf)) ?_
  refine S.q rfl rfl (Qt.nenil_nil Tryd.underlying27 rfl) ?_
  refine S.nil ?_
  refine S.if_f rfl ?_
  refine TC.skip ?_
  refine TC.seq ?_
  refine TC.region ?_
  refine S.q rfl rfl (Qt.move (by conv => lhs; whnf)) ?_
  refine S.opS rfl rfl (OpV.con (Pre := []) (R := _) Tryd.ent26 rfl (List.Perm.refl _) (fun w hw => new_walk E hEm (hgt b) hh2 w (hT.at hw)) ?_)
  rintro v L' ⟨tb2, m2, rfl, rfl⟩
  refine S.q rfl rfl (Qt.move (by conv => lhs; whnf)) ?_
  refine S.q rfl rfl (Qt.extract rfl rfl) ?_
  refine S.q rfl rfl (Qt.extract rfl rfl) ?_
  refine S.opS rfl rfl (OpV.alloc Tryd.zero35 (fun b8 => ?_))
  refine S.opN rfl (OpV.storeV0 rfl (by conv => lhs; whnf) (by exact Tryd.cells35) (by rfl) (by rfl) ?_)
  refine S.q rfl rfl (Qt.assign (by conv => lhs; whnf)) ?_
  refine S.nil ?_
  refine TC.seq ?_
  refine TC.seq ?_
  refine TC.region ?_
  refine S.q rfl rfl (Qt.move (by conv => lhs; whnf)) ?_
  refine S.q rfl rfl (Qt.nenil_nil Tryd.underlying27 rfl) ?_
  refine S.nil ?_
  refine S.if_f rfl ?_
  refine TC.skip ?_
  refine TC.seq ?_
  refine TC.seq ?_
  refine TC.region ?_
  refine S.q rfl rfl (Qt.move (by conv => lhs; whnf)) ?_
  refine S.opS rfl rfl (OpV.con (Pre := []) (R := _) Tryd.ent84 rfl (List.Perm.refl _) (fun w hw => all84_walk tb w) ?_)
  rintro v L' ⟨bF, rfl, rfl⟩
  refine S.nil ?_
  refine TC.block ?_
  refine TC.rangeFunc2 (α := Fin (lvT ms).length) (fun i : Fin (lvT ms).length => [Value.int .u64 (((lvT ms).getD i.val 0 : Nat) : Int), hv (getT E ms (0, (lvT ms).getD i.val 0))]) (fun ys => ys = List.finRange (lvT ms).length) (fun _ => True) (fun ys : List (Fin (lvT ms).length) => ∃ j, j ≤ (lvT ms).length ∧ ys = (List.finRange (lvT ms).length).take j) (fun pre L' => ∃ ms2, L' = [Blk tb2 150 (treeCs E (hgt b) m2), MapA m2 encAt hv (ms2)] ∧ TreeOk E (hgt b) (takeF E g ((lvT ms).take pre.length)) ms2 ∧ ∀ y ∈ (lvT ms).take pre.length, y < b) (fun c ys L' => c = .exit 0 ∧ ∃ ms2 k, L' = [Blk tb2 150 (treeCs E (hgt b) m2), MapA m2 encAt hv (ms2)] ∧ (TreeOk E (hgt b) (takeF E g ((lvT ms).take k)) ms2 ∧ ∀ y ∈ (lvT ms).take k, y < b) ∧ k < (lvT ms).length ∧ b ≤ (lvT ms).getD k 0) (L0 := [Blk tb2 150 (treeCs E (hgt b) m2), MapA m2 encAt hv ([])]) (R := [Blk bF 35 [.pointer (some ⟨tb, 0, none⟩)], Blk b8 35 [.pointer (some ⟨tb2, 0, none⟩)], Blk b5 27 [.nilIface], Blk b4 35 [.pointer none], Blk b3 24 [.int .u64 (b : Int)]]) rfl rfl Tryd.ent121 rfl (fun _ => rfl) ((List.perm_middle (l₁ := [_, _])).trans (List.Perm.cons _ (List.perm_middle (l₁ := [_, _])))) ⟨[], rfl, by rw [List.length_nil, List.take_zero, takeF_nil]; exact TreeOk.empty hE _, (fun y hy => by simp at hy)⟩ (fun w L' hw => all_gen E tb mb height ms hn (lvT ms) rfl (lvT ms).length rfl bF w L' hw.sat.left (Ro.of_pre hw hB) (Ro.of_pre hw hM) (Ro.of_rest hw (.head _))) ?_ ?_ ?_
  · rintro w' l Dd Rr Rb pre x L' ⟨j, hj, hpj⟩ ⟨ms2, rfl, ht2, hlt⟩ hst
    obtain ⟨hxv, hpl⟩ := fin_pre hpj
    have hb3 := Ro.of_rest (A := Blk b3 24 [.int .u64 (b : Int)]) hst (.tail _ (.tail _ (.tail _ (.tail _ (.head _)))))
    have hb8 := Ro.of_rest (A := Blk b8 35 [.pointer (some ⟨tb2, 0, none⟩)]) hst (.tail _ (.head _))
    have hT1 := hT.pre hst
    have hgx : getT E ms (0, ((lvT ms).getD x.val 0)) = g ((lvT ms).getD x.val 0) := ht.leafv (ht.lv.1 (getD_mem 0 x.isLt)).1
    refine TC.seq ?_
    refine TC.region ?_
    refine S.q rfl rfl (Qt.assign (by conv => lhs; whnf)) ?_
    refine S.nil ?_
    refine TC.region ?_
    refine S.opS rfl rfl (OpV.alloc Tryd.zero23 (fun b10 => ?_))
    refine S.opN rfl (OpV.storeV0 (v := hv (_)) rfl rfl (hv_size Tryd.cells23) (hv_all _) (hv_len _) ?_)
    refine S.nil ?_
    refine ⟨_, Sub.trans (Sub.keep _ (Sub.refl _)) (Sub.of_perm (List.perm_middle (l₁ := [_]))), ?_⟩
    refine TC.block ?_
    refine TC.seq ?_
    refine TC.seq ?_
    refine TC.region ?_
    refine S.q rfl rfl (Qt.move (by conv => lhs; whnf)) ?_
    refine S.q rfl rfl (Qt.load rfl (Ld.one (v := .int .u64 (b : Int)) (Has.ro hb3) Tryd.one24 rfl)) ?_
    refine S.dec rfl rfl (Qt.ge rfl rfl) (fun h37 => ?_) (fun h37 => ?_)
    · refine S.nil ?_
      refine S.if_t rfl ?_
      refine TC.exit ?_
      exact ⟨_, Sub.trans (Sub.keep _ (Sub.keep _ (Sub.keep _ (Sub.keep _ (Sub.drop _ (Sub.nil [])))))) (Sub.keep _ (Sub.trans (Sub.keep _ (Sub.trans (Sub.keep _ (Sub.trans (Sub.keep _ (Sub.refl _)) (Sub.of_perm (List.perm_middle (l₁ := [_]))))) (Sub.of_perm (List.perm_middle (l₁ := [_]))))) (Sub.of_perm (List.perm_middle (l₁ := [_]))))), rfl, ms2, pre.length, rfl, ⟨ht2, hlt⟩, hpl, by rw [← hxv]; exact h37⟩
    · refine S.nil ?_
      refine S.if_f rfl ?_
      refine TC.skip ?_
      refine TC.seq ?_
      refine TC.region ?_
      have hs : ((lvT ms).getD x.val 0) < 2 ^ hgt b := by omega
      refine S.q rfl rfl (Qt.load rfl (Ld.one (v := .pointer (some ⟨tb2, 0, none⟩)) (Has.ro hb8) Tryd.one35 rfl)) ?_
      refine S.q rfl rfl (Qt.move (by conv => lhs; whnf)) ?_
      refine S.q rfl rfl (Qt.load rfl (Ld.hash1 (x := getT E ms (0, ((lvT ms).getD x.val 0))) (Has.at 1 rfl) Tryd.row23 Tryd.cells23)) ?_
      refine S.opS rfl rfl (OpV.con (Pre := [Blk tb2 150 (treeCs E (hgt b) m2), MapA m2 encAt hv (ms2)]) (R := _) Tryd.ent27 rfl ((List.perm_middle (l₁ := [_, _, _])).trans (List.Perm.cons _ (List.perm_middle (l₁ := [_, _, _])))) (fun w hw => set_walk E tb2 m2 (hgt b) ms2 ((lvT ms).getD x.val 0) (getT E ms (0, ((lvT ms).getD x.val 0))) hh2 hs w hw.sat.left (hT1.pre hw)) ?_)
      rintro v L' ⟨rfl, rfl⟩
      refine S.q rfl rfl (Qt.assign (by conv => lhs; whnf)) ?_
      refine S.nil ?_
      refine TC.seq ?_
      refine TC.region ?_
      refine S.q rfl rfl (Qt.move (by conv => lhs; whnf)) ?_
      refine S.q rfl rfl (Qt.nenil_nil Tryd.underlying27 rfl) ?_
      refine S.nil ?_
      refine S.if_f rfl ?_
      refine TC.skip ?_
      refine ⟨_, Sub.trans (Sub.keep _ (Sub.keep _ (Sub.keep _ (Sub.keep _ (Sub.drop _ (Sub.nil [])))))) (Sub.trans (Sub.keep _ (Sub.trans (Sub.keep _ (Sub.refl _)) (Sub.of_perm (List.perm_middle (l₁ := [_, _, _]))))) (Sub.of_perm (List.perm_middle (l₁ := [_, _])))), _, rfl, ?_⟩
      rw [hgx, len_snoc, take_oneN hpl, ← takeF_snoc, ← hxv]
      rw [← hxv] at ht2 hlt
      exact ⟨ht2.set hs _, fun y hy => (List.mem_append.1 hy).elim (hlt y) (fun e => by rw [List.mem_singleton.1 e]; omega)⟩
  · rintro Dd ys L' rfl ⟨ms2, rfl, ht2, hlt⟩
    rw [List.length_finRange, List.take_length] at ht2 hlt
    refine TC.seq ?_
    refine TC.region ?_
    refine S.q rfl rfl (Qt.load rfl (Ld.one (v := .pointer (some ⟨tb2, 0, none⟩)) (Has.at 4 rfl) Tryd.one35 rfl)) ?_
    refine S.opN rfl (OpV.storeV6 rfl (by conv => lhs; whnf) (by exact Tryd.cells35) (by rfl) (by rfl) ?_)
    refine S.opN rfl (OpV.storeV5 rfl (by conv => lhs; whnf) (by exact Tryd.cells27) (by rfl) (by rfl) ?_)
    refine S.nil ?_
    refine TC.ret ?_
    refine finQ.retM rfl (Sub.refl _) (RVs.cell rfl (Ld.one (Has.at 5 rfl) Tryd.one35 (rfl)) (RVs.cell rfl (Ld.one (Has.at 4 rfl) Tryd.one27 (rfl)) RVs.nil)) (Sub.keep _ (Sub.keep _ (Sub.drop _ (Sub.drop _ (Sub.drop _ (Sub.drop _ (Sub.drop _ (Sub.nil [])))))))) ?_
    refine ⟨tb2, m2, ms2, rfl, rfl, ?_⟩
    rw [← takeF_all E g hlt]
    exact ht2
  · rintro Dd c ys L' - ⟨rfl, ms2, k, rfl, ⟨ht2, hlt⟩, hk, hbk⟩
    refine TC.exit ?_
    refine TC.seq ?_
    refine TC.region ?_
    refine S.q rfl rfl (Qt.load rfl (Ld.one (v := .pointer (some ⟨tb2, 0, none⟩)) (Has.at 4 rfl) Tryd.one35 rfl)) ?_
    refine S.opN rfl (OpV.storeV6 rfl (by conv => lhs; whnf) (by exact Tryd.cells35) (by rfl) (by rfl) ?_)
    refine S.opN rfl (OpV.storeV5 rfl (by conv => lhs; whnf) (by exact Tryd.cells27) (by rfl) (by rfl) ?_)
    refine S.nil ?_
    refine TC.ret ?_
    refine finQ.retM rfl (Sub.refl _) (RVs.cell rfl (Ld.one (Has.at 5 rfl) Tryd.one35 (rfl)) (RVs.cell rfl (Ld.one (Has.at 4 rfl) Tryd.one27 (rfl)) RVs.nil)) (Sub.keep _ (Sub.keep _ (Sub.drop _ (Sub.drop _ (Sub.drop _ (Sub.drop _ (Sub.drop _ (Sub.nil [])))))))) ?_
    refine ⟨tb2, m2, ms2, rfl, rfl, ?_⟩
    rw [← takeF_cut E g (lvT_rise ht.nodup) hk rfl hlt hbk]
    exact ht2
end Go.Proofs.YtlneklemjfefpaaDoor
