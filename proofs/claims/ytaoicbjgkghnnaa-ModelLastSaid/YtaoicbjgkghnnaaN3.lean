/-
  Walks: the written blocks in their order. Printed by a program of ours. Walks: whether a volume is the document's; whether two are the same. Printed by a program of ours.
-/
import Derived.Test.YtaoicbjgkghnnaaNF
import Derived.Test.YtaoicbjgkghnnaaNT
import Derived.Test.YtaoicbjgkghnnaaN2
import Derived.Test.YtaoicbjgkghnnaaE3
import Derived.Test.YtaoicbjgkghnnaaMP
namespace Go.Proofs.Ytaoicbjgkghnnaa
open Go.E
set_option linter.unusedVariables false
set_option maxRecDepth 4000
theorem srt_len (xs : List Nat) : (srt xs).length = xs.length := (srt_perm xs).length_eq
theorem srt_same {xs ys : List Nat} (h : xs.Perm ys) : srt xs = srt ys := (((srt_perm xs).trans h).trans (srt_perm ys).symm).eq_of_pairwise (fun a b _ _ h1 h2 => Nat.le_antisymm h1 h2) (srt_le _) (srt_le _)
theorem u64s_snoc (xs : List Nat) (x : Nat) : u64s (xs ++ [x]) = u64s xs ++ [.int .u64 ((x : Nat) : Int)] := by simp [u64s]
theorem ro_nodupM {w : World} {M : List Nat} {b : Nat} {ms : Ms} (h : Ro w M (MapA b encU hv ms)) : (keysOf ms).Nodup := by
  obtain ⟨⟨es, clock, _, _, _, _, hn⟩, _⟩ := h
  exact hn
theorem perm_app' (L : List Assn) : List.Perm L (L ++ []) := by rw [List.append_nil]
set_option maxHeartbeats 800000 in
theorem kgen_walk (bm : Nat) (ms : Ms) (b1 l : Nat) (J : Bool → List Nat → List Assn → Prop) (w0 : World) (L0 : List Assn) (h0 : Sat w0 L0) (hJ : J true [] L0) (hB : Ro w0 (fps L0) (Blk b1 71 [.map (some bm)])) (hM : Ro w0 (fps L0) (MapA bm encU hv ms))
    (hY : ∀ pre x w' L', (fun ys : List Nat => ys.Nodup ∧ ∀ y ∈ ys, y ∈ keysOf ms) (pre ++ [x]) → J true pre L' → St w0 (fps L0) L' w' → YieldAt Fence.wide 0 Try.prog l ((fun x : Nat => [Value.int .u64 ((x : Nat) : Int)]) x).toArray w' fun e w'' => ∃ L'', St w' (fps L') L'' w'' ∧ ((e = .returned (.bool true) ∧ J true (pre ++ [x]) L'') ∨ (e = .returned (.bool false) ∧ J false (pre ++ [x]) L''))) :
    Calls Try.prog 49 #[.func (.yield l) #[] #[], .pointer (some ⟨b1, 0, none⟩)] w0 (Post w0 (fps L0) fun v L => (∃ ys, (fun ys : List Nat => ys.Perm (keysOf ms)) ys ∧ J true ys L) ∨ (∃ pre, True ∧ J false pre L)) := by
  refine Calls.of (L := L0) (n := 14) (rs := []) Try.func49 rfl rfl rfl (Nat.le_of_ble_eq_true rfl) (h0) ?_
  have hnd := ro_nodupM hM
  refine TC.seq ?_
  refine TC.region ?_
  refine S.q rfl rfl (Qt.load rfl (Ld.one (v := .map (some bm)) (Has.ro hB) Try.one71 rfl)) ?_
  refine S.opS rfl rfl (OpV.rangeR Try.underlying71 rfl hM (fun it clock es hr => ?_))
  refine S.nil ?_
  refine TC.block ?_
  refine TC.loop (γ := List Nat × List Assn) [6, 7, 8, 9, 3, 10, 11, 12, 13] (fun g => []) (fun g => ItR it bm clock es encU hv ms g.1 :: g.2) (fun g => g.1.Nodup ∧ (∀ x ∈ g.1, x ∈ keysOf ms) ∧ J true g.1 g.2) (fun g => ms.length - g.1.length) (([], L0))
    ⟨List.nodup_nil, (fun _ h => nomatch h), hJ⟩ ⟨Out.refl _ _, (fun _ h => nomatch h)⟩ (Sub.refl _) ?_
  rintro ⟨done, Z⟩ u ⟨hi1, hi2, hj⟩
  dsimp only at hi1 hi2 hj
  show TC _ _ _ (scr _ u _) (ItR it bm clock es encU hv ms done :: Z)
  refine TC.seq ?_
  refine TC.region ?_
  refine S.opS rfl rfl (OpV.nextR0 (fun _ _ => encU_inj) hr rfl (fun hend => ?_) (fun x a hm hd => ?_))
  · refine S.q rfl rfl (Qt.extract rfl rfl) ?_
    refine S.nil ?_
    refine TC.seq ?_
    refine S.if_f rfl ?_
    refine TC.exit ?_
    refine finQ.normal RVs.nil (Sub.drop _ (Sub.refl _)) ?_
    exact .inl ⟨done, (List.perm_ext_iff_of_nodup hi1 hnd).2 fun y => ⟨hi2 y, fun hy => by obtain ⟨p, hp, rfl⟩ := List.mem_map.1 hy; exact hend p hp⟩, hj⟩
  · refine S.q rfl rfl (Qt.extract rfl rfl) ?_
    refine S.nil ?_
    refine TC.seq ?_
    refine S.if_t rfl ?_
    refine TC.skip ?_
    refine TC.block ?_
    refine TC.seq ?_
    refine TC.region ?_
    refine S.q rfl rfl (Qt.entryR hr rfl (Has.at 0 rfl) hm) ?_
    refine S.q rfl rfl (Qt.extract rfl rfl) ?_
    refine S.q rfl rfl (Qt.assign (by conv => lhs; whnf)) ?_
    refine S.nil ?_
    refine TC.seq ?_
    refine TC.region ?_
    refine S.q rfl rfl (Qt.move (by conv => lhs; whnf)) ?_
    refine S.q rfl rfl (Qt.move (by conv => lhs; whnf)) ?_
    refine S.opS rfl rfl (OpV.yield2 (L1 := [ItR it bm clock es encU hv ms (done ++ [x])]) (enc := (fun x : Nat => [Value.int .u64 ((x : Nat) : Int)])) x (fun w' L' => hY _ _ w' L' (done_step hi1 hi2 hm hd).1) rfl rfl hj (fun Z2 hj2 => ?_) (fun Z2 hj2 => ?_))
    · refine S.q rfl rfl (Qt.not_t rfl) ?_
      refine S.nil ?_
      refine S.if_f rfl ?_
      refine TC.skip ?_
      refine ⟨(done ++ [x], Z2), ?_, ?_, ⟨?_, (fun _ h => nomatch h)⟩, Sub.refl _⟩
      · exact ⟨(done_step hi1 hi2 hm hd).1.1, (done_step hi1 hi2 hm hd).1.2, hj2⟩
      · exact (done_step hi1 hi2 hm hd).2
      repeat (first | exact Out.refl _ _ | refine Out.put rfl ?_ | refine Out.puts rfl ?_ | refine Out.scr ?_ | refine Out.scr' rfl ?_)
    · refine S.q rfl rfl (Qt.not_f rfl) ?_
      refine S.nil ?_
      refine S.if_t rfl ?_
      refine TC.ret ?_
      refine finQ.ret RVs.nil (Sub.drop _ (Sub.refl _)) ?_
      exact .inr ⟨_, trivial, hj2⟩
theorem keys_gen (bm : Nat) (ms : Ms) (b1 : Nat) (w : World) (L0 : List Assn) (h0 : Sat w L0) (hB : Ro w (fps L0) (Blk b1 71 [.map (some bm)])) (hM : Ro w (fps L0) (MapA bm encU hv ms)) :
    Gen2 Try.prog 49 #[.pointer (some ⟨b1, 0, none⟩)] (fun x : Nat => [Value.int .u64 ((x : Nat) : Int)]) (fun ys : List Nat => ys.Perm (keysOf ms)) (fun _ => True) (fun ys : List Nat => ys.Nodup ∧ ∀ y ∈ ys, y ∈ keysOf ms) w L0 := fun l J hJ hY =>
  kgen_walk bm ms b1 l J w L0 h0 hJ hB hM hY

set_option maxHeartbeats 1600000 in
theorem aseq_walk (bm : Nat) (ms : Ms) (hml : ms.length ≤ 65536) (b1 : Nat) (w0 : World) (hB : Ro w0 [] (Blk b1 71 [.map (some bm)])) (hM : Ro w0 [] (MapA bm encU hv ms)) :
    Calls Try.prog 50 #[.slice none 0 0, .func (.func 49) #[] #[.pointer (some ⟨b1, 0, none⟩)]] w0 (Post w0 [] fun v L => ∃ ys O d, v = .slice O ys.length d ∧ L = [OwnA 24 1 O ys.length d (u64s (ys))] ∧ ys.Perm (keysOf ms)) := by
  refine Calls.of (L := []) (n := 13) (rs := [.tmp 4]) Try.func50 rfl rfl rfl (Nat.le_of_ble_eq_true rfl) (Sat.nil _) ?_
  refine TC.ownNil 24 1 ?_
  refine TC.seq ?_
  refine TC.region ?_
  refine S.opS rfl rfl (OpV.box (v := .slice none 0 0) rfl (fun b2 => ?_))
  refine S.q rfl rfl (Qt.assign (by conv => lhs; whnf)) ?_
  refine S.nil ?_
  refine TC.seq ?_
  refine TC.seq ?_
  refine TC.region ?_
  refine S.q rfl rfl (Qt.move (by conv => lhs; whnf)) ?_
  refine S.nil ?_
  refine TC.block ?_
  refine TC.rangeFunc2 (α := Nat) (fun x : Nat => [Value.int .u64 ((x : Nat) : Int)]) (fun ys : List Nat => ys.Perm (keysOf ms)) (fun _ => True) (fun ys : List Nat => ys.Nodup ∧ ∀ y ∈ ys, y ∈ keysOf ms) (fun pre L' => ∃ O d, L' = [Blk b2 22 [.slice O pre.length d], OwnA 24 1 O pre.length d (u64s (pre))]) (fun _ _ _ => False) (L0 := [Blk b2 22 [.slice none ([] : List Nat).length 0], OwnA 24 1 none ([] : List Nat).length 0 (u64s (([] : List Nat)))]) (R := []) rfl rfl Try.ent49 rfl (fun _ => rfl) (perm_app' _) ⟨none, 0, rfl⟩ (fun w L' hw => keys_gen bm ms b1 w L' hw.sat.left (Ro.of_pre hw hB) (Ro.of_pre hw hM)) ?_ ?_ (fun _ _ _ _ _ h => h.elim)
  · rintro w' l Dd Rr Rb pre x L' ⟨hp1, hp2⟩ ⟨O, d, rfl⟩ hst
    have hpl : pre.length + 1 ≤ 65536 := by have q := len_le_of_sub hp1 hp2; rw [keys_len, List.length_append, List.length_singleton] at q; omega
    refine TC.region ?_
    refine S.q rfl rfl (Qt.assign (by conv => lhs; whnf)) ?_
    refine S.nil ?_
    refine ⟨_, Sub.refl _, ?_⟩
    refine TC.block ?_
    refine TC.region ?_
    refine S.q rfl rfl (Qt.load rfl (Ld.one (v := .slice O pre.length d) (Has.at 2 rfl) Try.one22 rfl)) ?_
    refine S.q rfl rfl (Qt.move (by conv => lhs; whnf)) ?_
    refine S.opS rfl rfl (OpV.slice1 (bytes := 8) (v := .int .u64 ((x : Nat) : Int)) Try.underlying22 Try.elem24 (by decide) rfl rfl (fun g10 => ?_))
    refine S.opS rfl rfl (OpV.app4 (bytes := 8) (news := [.int .u64 ((x : Nat) : Int)]) Try.underlying22 Try.elem24 rfl rfl (Has.blk (Has.at 0 rfl)) rfl (by intro u hu; rw [List.mem_singleton.1 hu]; rfl) (by simp only [maxLen]; omega) (by omega) (fun O' d' => ?_))
    refine S.opN rfl (OpV.storeV3 rfl (by conv => lhs; whnf) (by exact Try.cells22) (by rfl) (by rfl) ?_)
    refine S.nil ?_
    refine ⟨_, Sub.trans (Sub.keep _ (Sub.keep _ (Sub.keep _ (Sub.keep _ (Sub.drop _ (Sub.nil [])))))) (Sub.trans (Sub.keep _ (Sub.trans (Sub.keep _ (Sub.trans (Sub.keep _ (Sub.trans (Sub.keep _ (Sub.refl _)) (Sub.of_perm (List.perm_middle (l₁ := [_]))))) (Sub.of_perm (List.perm_middle (l₁ := [_]))))) (Sub.of_perm (List.perm_middle (l₁ := [_]))))) (Sub.of_perm (List.perm_middle (l₁ := [_])))), O', d', ?_⟩
    simp only [List.length_append, List.length_singleton, u64s_snoc] <;> rfl
  · rintro Dd ys L' hys ⟨O, d, rfl⟩
    refine TC.seq ?_
    refine TC.region ?_
    refine S.q rfl rfl (Qt.load rfl (Ld.one (v := .slice O ys.length d) (Has.at 1 rfl) Try.one22 rfl)) ?_
    refine S.q rfl rfl (Qt.assign (by conv => lhs; whnf)) ?_
    refine S.nil ?_
    refine TC.ret ?_
    refine finQ.retM rfl (Sub.refl _) (RVs.tmp (by conv => lhs; whnf) RVs.nil) (Sub.trans (Sub.keep _ (Sub.drop _ (Sub.nil []))) (Sub.trans (Sub.keep _ (Sub.refl _)) (Sub.of_perm (List.perm_middle (l₁ := [_]))))) ?_
    exact ⟨ys, O, d, rfl, rfl, hys⟩
set_option maxHeartbeats 400000 in
theorem coll_walk (bm : Nat) (ms : Ms) (hml : ms.length ≤ 65536) (b1 : Nat) (w0 : World) (hB : Ro w0 [] (Blk b1 71 [.map (some bm)])) (hM : Ro w0 [] (MapA bm encU hv ms)) :
    Calls Try.prog 47 #[.func (.func 49) #[] #[.pointer (some ⟨b1, 0, none⟩)]] w0 (Post w0 [] fun v L => ∃ ys O d, v = .slice O ys.length d ∧ L = [OwnA 24 1 O ys.length d (u64s (ys))] ∧ ys.Perm (keysOf ms)) := by
  refine Calls.of (L := []) (n := 5) (rs := [.tmp 2]) Try.func47 rfl rfl rfl (Nat.le_of_ble_eq_true rfl) (Sat.nil _) ?_
  refine TC.seq ?_
  refine TC.region ?_
  refine S.q rfl rfl (Qt.assign (by conv => lhs; whnf)) ?_
  refine S.nil ?_
  refine TC.seq ?_
  refine TC.region ?_
  refine S.q rfl rfl (Qt.move (by conv => lhs; whnf)) ?_
  refine S.opS rfl rfl (OpV.con (Pre := []) (R := _) Try.ent50 rfl (List.Perm.refl _) (fun w hw => aseq_walk bm ms hml b1 w (Rd.ro hB w hw) (Rd.ro hM w hw)) ?_)
  rintro v L' ⟨ys, O, d, rfl, rfl, hys⟩
  refine S.q rfl rfl (Qt.assign (by conv => lhs; whnf)) ?_
  refine S.nil ?_
  refine TC.ret ?_
  refine finQ.ret (RVs.tmp (by conv => lhs; whnf) RVs.nil) (Sub.refl _) ?_
  exact ⟨ys, O, d, rfl, rfl, hys⟩
set_option maxHeartbeats 400000 in
theorem sorted_walk (bm : Nat) (ms : Ms) (hml : ms.length ≤ 65536) (b1 : Nat) (w0 : World) (hB : Ro w0 [] (Blk b1 71 [.map (some bm)])) (hM : Ro w0 [] (MapA bm encU hv ms)) :
    Calls Try.prog 41 #[.func (.func 49) #[] #[.pointer (some ⟨b1, 0, none⟩)]] w0 (Post w0 [] fun v L => ∃ O d, v = .slice O (srt (keysOf ms)).length d ∧ L = [OwnA 24 1 O (srt (keysOf ms)).length d (u64s ((srt (keysOf ms))))]) := by
  refine Calls.of (L := []) (n := 9) (rs := [.tmp 2]) Try.func41 rfl rfl rfl (Nat.le_of_ble_eq_true rfl) (Sat.nil _) ?_
  refine TC.seq ?_
  refine TC.region ?_
  refine S.q rfl rfl (Qt.assign (by conv => lhs; whnf)) ?_
  refine S.nil ?_
  refine TC.seq ?_
  refine TC.region ?_
  refine S.q rfl rfl (Qt.move (by conv => lhs; whnf)) ?_
  refine S.opS rfl rfl (OpV.con (Pre := []) (R := _) Try.ent47 rfl (List.Perm.refl _) (fun w hw => coll_walk bm ms hml b1 w (Rd.ro hB w hw) (Rd.ro hM w hw)) ?_)
  rintro v L' ⟨ys, O, d, rfl, rfl, hys⟩
  have hyl : ys.length ≤ 65536 := by rw [hys.length_eq, keys_len]; exact hml
  refine S.q rfl rfl (Qt.assign (by conv => lhs; whnf)) ?_
  refine S.nil ?_
  refine TC.seq ?_
  refine TC.region ?_
  refine S.q rfl rfl (Qt.move (by conv => lhs; whnf)) ?_
  refine S.opS rfl rfl (OpV.con (Pre := [OwnA 24 1 O ys.length d (u64s (ys))]) (R := _) Try.ent48 rfl (List.Perm.refl _) (fun w hw => sort_own O ys.length d ys (by omega) w hw.sat.left) ?_)
  rintro v L' ⟨rfl, rfl⟩
  refine S.nil ?_
  refine TC.seq ?_
  refine TC.region ?_
  refine S.q rfl rfl (Qt.move (by conv => lhs; whnf)) ?_
  refine S.q rfl rfl (Qt.assign (by conv => lhs; whnf)) ?_
  refine S.nil ?_
  refine TC.ret ?_
  refine finQ.ret (RVs.tmp (by conv => lhs; whnf) RVs.nil) (Sub.refl _) ?_
  have e := srt_same hys
  have e2 := srt_len ys
  rw [e] at e2 ⊢
  rw [← e2]
  exact ⟨O, d, rfl, rfl⟩
set_option maxHeartbeats 400000 in
theorem keys_walk (bm : Nat) (w0 : World) :
    Calls Try.prog 42 #[.map (some bm)] w0 (Post w0 [] fun v L => ∃ b1, v = .func (.func 49) #[] #[.pointer (some ⟨b1, 0, none⟩)] ∧ L = [Blk b1 71 [.map (some bm)]]) := by
  refine Calls.of (L := []) (n := 4) (rs := [.tmp 2]) Try.func42 rfl rfl rfl (Nat.le_of_ble_eq_true rfl) (Sat.nil _) ?_
  refine TC.seq ?_
  refine TC.region ?_
  refine S.opS rfl rfl (OpV.box (by conv => lhs; whnf) (fun b1 => ?_))
  refine S.q rfl rfl (Qt.assign (by conv => lhs; whnf)) ?_
  refine S.nil ?_
  refine TC.seq ?_
  refine TC.region ?_
  refine S.q rfl rfl (Qt.makeFuncL (fs := []) (cs := [.pointer (some ⟨b1, 0, none⟩)]) rfl rfl) ?_
  refine S.q rfl rfl (Qt.assign (by conv => lhs; whnf)) ?_
  refine S.nil ?_
  refine TC.ret ?_
  refine finQ.ret (RVs.tmp (by conv => lhs; whnf) RVs.nil) (Sub.refl _) ?_
  exact ⟨_, rfl, rfl⟩
set_option maxHeartbeats 400000 in
theorem all27_walk (b : Nat) (w0 : World) :
    Calls Try.prog 27 #[.pointer (some ⟨b, 0, none⟩)] w0 (Post w0 [] fun v L => ∃ b1, v = .func (.func 40) #[] #[.pointer (some ⟨b1, 0, none⟩)] ∧ L = [Blk b1 38 [.pointer (some ⟨b, 0, none⟩)]]) := by
  refine Calls.of (L := []) (n := 4) (rs := [.tmp 2]) Try.func27 rfl rfl rfl (Nat.le_of_ble_eq_true rfl) (Sat.nil _) ?_
  refine TC.seq ?_
  refine TC.region ?_
  refine S.opS rfl rfl (OpV.box (by conv => lhs; whnf) (fun b1 => ?_))
  refine S.q rfl rfl (Qt.assign (by conv => lhs; whnf)) ?_
  refine S.nil ?_
  refine TC.seq ?_
  refine TC.region ?_
  refine S.q rfl rfl (Qt.makeFuncL (fs := []) (cs := [.pointer (some ⟨b1, 0, none⟩)]) rfl rfl) ?_
  refine S.q rfl rfl (Qt.assign (by conv => lhs; whnf)) ?_
  refine S.nil ?_
  refine TC.ret ?_
  refine finQ.ret (RVs.tmp (by conv => lhs; whnf) RVs.nil) (Sub.refl _) ?_
  exact ⟨_, rfl, rfl⟩
set_option maxHeartbeats 800000 in
theorem gen40_walk (b bm n : Nat) (ms : Ms) (hml : ms.length ≤ 65536) (vs : List Nat) (hvs : vs = srt (keysOf ms)) (m : Nat) (hvm : vs.length = m) (b1 l : Nat) (J : Bool → List (Fin m) → List Assn → Prop) (w0 : World) (L0 : List Assn) (h0 : Sat w0 L0) (hJ : J true [] L0) (hV : Ro w0 (fps L0) (Blk b 73 [.int .u64 (n : Int), .map (some bm)])) (hM : Ro w0 (fps L0) (MapA bm encU hv ms)) (hP : Ro w0 (fps L0) (Blk b1 38 [.pointer (some ⟨b, 0, none⟩)]))
    (hY : ∀ pre x w' L', (fun ys : List (Fin m) => ∃ j, j ≤ m ∧ ys = (List.finRange m).take j) (pre ++ [x]) → J true pre L' → St w0 (fps L0) L' w' → YieldAt Fence.wide 0 Try.prog l ((fun i : Fin m => [Value.int .u64 ((vs.getD i.val 0 : Nat) : Int), hv (getM ms (vs.getD i.val 0))]) x).toArray w' fun e w'' => ∃ L'', St w' (fps L') L'' w'' ∧ ((e = .returned (.bool true) ∧ J true (pre ++ [x]) L'') ∨ (e = .returned (.bool false) ∧ J false (pre ++ [x]) L''))) :
    Calls Try.prog 40 #[.func (.yield l) #[] #[], .pointer (some ⟨b1, 0, none⟩)] w0 (Post w0 (fps L0) fun v L => (∃ ys, ys = List.finRange m ∧ J true ys L) ∨ (∃ pre, True ∧ J false pre L)) := by
  refine Calls.of (L := L0) (n := 29) (rs := []) Try.func40 rfl rfl rfl (Nat.le_of_ble_eq_true rfl) (h0) ?_
  have hmm : m ≤ 65536 := by rw [← hvm, hvs, srt_len, keys_len]; exact hml
  refine TC.seq ?_
  refine TC.seq ?_
  refine TC.region ?_
  refine S.q rfl rfl (Qt.load rfl (Ld.one (Has.ro hP) Try.one38 rfl)) ?_
  refine S.q rfl rfl (Qt.eqp_some Try.underlying38 rfl) ?_
  refine S.nil ?_
  refine S.if_f rfl ?_
  refine TC.skip ?_
  refine TC.seq ?_
  refine TC.region ?_
  refine S.q rfl rfl (Qt.load rfl (Ld.one (Has.ro hP) Try.one38 rfl)) ?_
  refine S.q rfl rfl (Qt.nilCheck rfl) ?_
  refine S.q rfl rfl (Qt.field Try.underlying73 rfl Try.cells71 rfl) ?_
  refine S.q rfl rfl (Qt.load rfl (Ld.one (v := .map (some bm)) (Has.ro hV) Try.one71 rfl)) ?_
  refine S.opS rfl rfl (OpV.con (Pre := []) (R := L0) Try.ent42 rfl (List.Perm.refl _) (fun w hw => keys_walk bm w) ?_)
  rintro v L' ⟨bK, rfl, rfl⟩
  show TL _ _ _ _ _ (Blk bK 71 [.map (some bm)] :: L0)
  refine S.opS rfl rfl (OpV.con (Pre := []) (R := (Blk bK 71 [.map (some bm)] :: L0)) Try.ent41 rfl (List.Perm.refl _) (fun w hw => sorted_walk bm ms hml bK w (Ro.of_rest (Pre := []) hw (.head _)) (Ro.of_pre (Pre := []) hw hM)) ?_)
  rintro v L' ⟨O, d, rfl, rfl⟩
  rw [← hvs, hvm]
  show TL _ _ _ _ (Env.put _ _ (.slice O m d)) (OwnA 24 1 O m d (u64s vs) :: Blk bK 71 [.map (some bm)] :: L0)
  refine S.q rfl rfl (Qt.len_slice Try.underlying22 rfl) ?_
  refine S.q rfl rfl (Qt.move (by conv => lhs; whnf)) ?_
  refine S.nil ?_
  refine TC.block ?_
  refine TC.loop (γ := Nat × List Assn) [15, 16, 17, 4, 18, 19, 20, 21, 22, 23, 24, 25, 26, 27, 28, 14] (fun g => [(14, .int .i64 ((g.1 : Nat) : Int))]) (fun g => OwnA 24 1 O m d (u64s vs) :: g.2) (fun g => g.1 ≤ m ∧ J true ((List.finRange m).take g.1) g.2) (fun g => m - g.1) ((0, L0))
    ⟨Nat.zero_le _, hJ⟩ ⟨Out.refl _ _, (List.forall_mem_cons.2 ⟨rfl, (fun _ h => nomatch h)⟩)⟩ (Sub.keep _ (Sub.drop _ (Sub.refl _))) ?_
  rintro ⟨k, Z⟩ u ⟨hk, hj⟩
  dsimp only at hk hj
  show TC _ _ _ (puts [(14, .int .i64 ((k : Nat) : Int))] (scr _ u _)) (OwnA 24 1 O m d (u64s vs) :: Z)
  refine TC.seq ?_
  refine TC.region ?_
  refine S.dec rfl rfl (Qt.lt rfl rfl) (fun h15 => ?_) (fun h15 => ?_)
  · refine S.nil ?_
    refine TC.seq ?_
    refine S.if_t rfl ?_
    refine TC.skip ?_
    refine TC.seq ?_
    refine TC.block ?_
    refine TC.seq ?_
    refine TC.region ?_
    have hkm : k < m := h15
    refine S.q rfl rfl (Qt.index Try.underlying22 Try.cells24 rfl rfl (by omega) (Has.own (Has.at 0 rfl)) (by rw [u64s_len]; omega)) ?_
    refine S.q rfl rfl (Qt.load rfl (Ld.sl (Has.own (Has.at 0 rfl)) Try.one24 (u64s_get (by omega) (Nat.mul_one _)))) ?_
    refine S.q rfl rfl (Qt.assign (by conv => lhs; whnf)) ?_
    refine S.nil ?_
    refine TC.seq ?_
    refine TC.region ?_
    refine S.q rfl rfl (Qt.move (by conv => lhs; whnf)) ?_
    refine S.q rfl rfl (Qt.move (by conv => lhs; whnf)) ?_
    refine S.q rfl rfl (Qt.load rfl (Ld.one (Has.ro hP) Try.one38 rfl)) ?_
    refine S.q rfl rfl (Qt.nilCheck rfl) ?_
    refine S.q rfl rfl (Qt.field Try.underlying73 rfl Try.cells71 rfl) ?_
    refine S.q rfl rfl (Qt.load rfl (Ld.one (v := .map (some bm)) (Has.ro hV) Try.one71 rfl)) ?_
    refine S.q rfl rfl (Qt.move (by conv => lhs; whnf)) ?_
    refine S.q rfl rfl (Qt.as (v' := hv (getM ms (vs.getD k 0))) (Qt.lookup Try.underlying71 Try.keyU Try.z58 rfl rfl (Has.ro hM)) (z_read ms (vs.getD k 0))) ?_
    refine S.opS rfl rfl (OpV.yield2 (L1 := [OwnA 24 1 O m d (u64s vs)]) (enc := (fun i : Fin m => [Value.int .u64 ((vs.getD i.val 0 : Nat) : Int), hv (getM ms (vs.getD i.val 0))])) ⟨k, hkm⟩ (fun w' L' => hY _ _ w' L' ⟨k + 1, hkm, (finRange_take hkm).symm⟩) rfl rfl hj (fun Z2 hj2 => ?_) (fun Z2 hj2 => ?_))
    · rw [← finRange_take hkm] at hj2
      refine S.q rfl rfl (Qt.not_t rfl) ?_
      refine S.nil ?_
      refine S.if_f rfl ?_
      refine TC.skip ?_
      refine TC.region ?_
      refine S.q rfl rfl (Qt.add (b := 1) rfl rfl (by simp only [kmax]; omega)) ?_
      refine S.q rfl rfl (Qt.move (by conv => lhs; whnf)) ?_
      refine S.nil ?_
      refine ⟨(k + 1, Z2), ?_, ?_, ⟨?_, (List.forall_mem_cons.2 ⟨rfl, (fun _ h => nomatch h)⟩)⟩, Sub.refl _⟩
      · exact ⟨by show _ ≤ _; dsimp only; omega, hj2⟩
      · show _ < _; dsimp only; omega
      repeat (first | exact Out.refl _ _ | refine Out.put rfl ?_ | refine Out.puts rfl ?_ | refine Out.scr ?_ | refine Out.scr' rfl ?_)
    · refine S.q rfl rfl (Qt.not_f rfl) ?_
      refine S.nil ?_
      refine S.if_t rfl ?_
      refine TC.ret ?_
      refine finQ.ret RVs.nil (Sub.drop _ (Sub.refl _)) ?_
      exact .inr ⟨_, trivial, hj2⟩
  · refine S.nil ?_
    refine TC.seq ?_
    refine S.if_f rfl ?_
    refine TC.exit ?_
    refine finQ.normal RVs.nil (Sub.drop _ (Sub.refl _)) ?_
    obtain rfl : k = m := by omega
    rw [finRange_all] at hj
    exact .inl ⟨_, rfl, hj⟩
theorem all_gen (b bm n : Nat) (ms : Ms) (hml : ms.length ≤ 65536) (vs : List Nat) (hvs : vs = srt (keysOf ms)) (m : Nat) (hvm : vs.length = m) (b1 : Nat) (w : World) (L0 : List Assn) (h0 : Sat w L0) (hV : Ro w (fps L0) (Blk b 73 [.int .u64 (n : Int), .map (some bm)])) (hM : Ro w (fps L0) (MapA bm encU hv ms)) (hP : Ro w (fps L0) (Blk b1 38 [.pointer (some ⟨b, 0, none⟩)])) :
    Gen2 Try.prog 40 #[.pointer (some ⟨b1, 0, none⟩)] (fun i : Fin m => [Value.int .u64 ((vs.getD i.val 0 : Nat) : Int), hv (getM ms (vs.getD i.val 0))]) (fun ys => ys = List.finRange m) (fun _ => True) (fun ys : List (Fin m) => ∃ j, j ≤ m ∧ ys = (List.finRange m).take j) w L0 := fun l J hJ hY =>
  gen40_walk b bm n ms hml vs hvs m hvm b1 l J w L0 h0 hJ hV hM hP hY

end Go.Proofs.Ytaoicbjgkghnnaa
namespace Go.Proofs.Ytaoicbjgkghnnaa
open Go.E
set_option linter.unusedVariables false
set_option maxRecDepth 4000
theorem Try.cells4 : (Try.prog.info? 4).map (·.size) = some 1 := by kernel_rfl
theorem Try.one4 : oneT Try.prog 4 = true := by kernel_rfl
theorem Try.zero4 : zeroOf Try.prog 4 = some [.bool false] := by kernel_rfl
theorem Try.ent26 : Enters Try.prog 26 := ⟨_, Try.func26, by kernel_rfl, rfl⟩
theorem Try.ent27 : Enters Try.prog 27 := ⟨_, Try.func27, by kernel_rfl, rfl⟩
theorem Try.ent40 : Enters Try.prog 40 := ⟨_, Try.func40, by kernel_rfl, rfl⟩
theorem look_srt (ms : Ms) {y : Nat} (h : y ∈ srt (keysOf ms)) : (Go.E.look y ms).isSome = true := by
  have h1 := srt_mem.1 h
  cases e : Go.E.look y ms with
  | none => exact absurd h1 (look_none.1 e)
  | some v => rfl
set_option maxHeartbeats 1600000 in
theorem same21_walk (b bm n b2 bm2 : Nat) (ms : Ms) (hml : ms.length ≤ 65536) (w0 : World) (hV : Ro w0 [] (Blk b 73 [.int .u64 (n : Int), .map (some bm)])) (hM : Ro w0 [] (MapA bm encU hv ms)) (hV2 : Ro w0 [] (Blk b2 73 [.int .u64 (n : Int), .map (some bm2)])) (hM2 : Ro w0 [] (MapA bm2 encU hv ms)) :
    Calls Try.prog 21 #[.pointer (some ⟨b, 0, none⟩), .pointer (some ⟨b2, 0, none⟩)] w0 (Post w0 [] fun v L => v = .bool true ∧ L = []) := by
  refine Calls.of (L := []) (n := 41) (rs := [.cell 4 4]) Try.func21 rfl rfl rfl (Nat.le_of_ble_eq_true rfl) (Sat.nil _) ?_
  refine TC.seq ?_
  refine TC.region ?_
  refine S.opS rfl rfl (OpV.box (by conv => lhs; whnf) (fun b3 => ?_))
  refine S.opS rfl rfl (OpV.alloc Try.zero4 (fun b4 => ?_))
  refine S.nil ?_
  refine TC.seq ?_
  refine TC.seq ?_
  refine S.draw ([], []) Try.mixed (Sub.nil _) ?_
  refine D.qX (k := 0) rfl (by kernel_rfl) (by kernel_rfl) (by kernel_rfl) rfl rfl (Qt.move (by conv => lhs; whnf)) ?_
  refine D.cX (k := 1) rfl (by kernel_rfl) (by kernel_rfl) (by kernel_rfl) rfl rfl (CalU.con0 Try.ent26 rfl (fun w hw => Calls.ret (blocks_walk b bm n w (Rd.ro hV w hw)))) ?_
  refine D.qX (k := 2) rfl (by kernel_rfl) (by kernel_rfl) (by kernel_rfl) rfl rfl (Qt.load rfl (Ld.one (Has.at 1 rfl) Try.one38 rfl)) ?_
  refine D.cX (k := 3) rfl (by kernel_rfl) (by kernel_rfl) (by kernel_rfl) rfl rfl (CalU.con0 Try.ent26 rfl (fun w hw => Calls.ret (blocks_walk b2 bm2 n w (Rd.ro hV2 w hw)))) ?_
  refine D.qX (k := 4) rfl (by kernel_rfl) (by kernel_rfl) (by kernel_rfl) rfl rfl (Qt.dF (Qt.ne rfl rfl) (fun h => h rfl)) ?_
  refine D.qX (k := 5) rfl (by kernel_rfl) (by kernel_rfl) (by kernel_rfl) rfl rfl (Qt.move (by conv => lhs; whnf)) ?_
  refine D.qgX (k := 6) rfl (by kernel_rfl) (by kernel_rfl) (by kernel_rfl) rfl rfl rfl (Qt.move (by conv => lhs; whnf)) ?_
  refine D.cgX (k := 7) rfl (by kernel_rfl) (by kernel_rfl) (by kernel_rfl) rfl rfl rfl (CalU.con0 Try.ent28 rfl (fun w hw => Calls.ret (len_walk b bm n ms w (Rd.ro hV w hw) (Rd.ro hM w hw)))) ?_
  refine D.qgX (k := 8) rfl (by kernel_rfl) (by kernel_rfl) (by kernel_rfl) rfl rfl rfl (Qt.load rfl (Ld.one (Has.at 1 rfl) Try.one38 rfl)) ?_
  refine D.cgX (k := 9) rfl (by kernel_rfl) (by kernel_rfl) (by kernel_rfl) rfl rfl rfl (CalU.con0 Try.ent28 rfl (fun w hw => Calls.ret (len_walk b2 bm2 n ms w (Rd.ro hV2 w hw) (Rd.ro hM2 w hw)))) ?_
  refine D.qgX (k := 10) rfl (by kernel_rfl) (by kernel_rfl) (by kernel_rfl) rfl rfl rfl (Qt.dF (Qt.ne rfl rfl) (fun h => h rfl)) ?_
  refine D.qX (k := 11) rfl (by kernel_rfl) (by kernel_rfl) (by kernel_rfl) rfl rfl (Qt.pick_f rfl (by conv => lhs; whnf)) ?_
  refine D.done (Sub.nil _) (by kernel_rfl) ?_
  refine S.if_f rfl ?_
  refine TC.skip ?_
  refine TC.seq ?_
  refine TC.seq ?_
  refine TC.region ?_
  refine S.q rfl rfl (Qt.move (by conv => lhs; whnf)) ?_
  refine S.opS rfl rfl (OpV.con (Pre := []) (R := _) Try.ent27 rfl (List.Perm.refl _) (fun w hw => all27_walk b w) ?_)
  rintro v L' ⟨bF, rfl, rfl⟩
  refine S.nil ?_
  refine TC.block ?_
  refine TC.rangeFunc2 (α := Fin (srt (keysOf ms)).length) (fun i : Fin (srt (keysOf ms)).length => [Value.int .u64 (((srt (keysOf ms)).getD i.val 0 : Nat) : Int), hv (getM ms ((srt (keysOf ms)).getD i.val 0))]) (fun ys => ys = List.finRange (srt (keysOf ms)).length) (fun _ => True) (fun ys : List (Fin (srt (keysOf ms)).length) => ∃ j, j ≤ (srt (keysOf ms)).length ∧ ys = (List.finRange (srt (keysOf ms)).length).take j) (fun pre L' => L' = []) (fun _ _ _ => False) (L0 := []) (R := [Blk bF 38 [.pointer (some ⟨b, 0, none⟩)], Blk b4 4 [.bool false], Blk b3 38 [.pointer (some ⟨b2, 0, none⟩)]]) rfl rfl Try.ent40 rfl (fun _ => rfl) (List.Perm.refl _) rfl (fun w L' hw => all_gen b bm n ms hml (srt (keysOf ms)) rfl (srt (keysOf ms)).length rfl bF w L' hw.sat.left (Ro.of_pre hw hV) (Ro.of_pre hw hM) (Ro.of_rest hw (.head _))) ?_ ?_ (fun _ _ _ _ _ h => h.elim)
  · rintro w' l Dd Rr Rb pre x L' ⟨j, hj, hpj⟩ rfl hst
    have hb3 := Ro.of_rest (A := Blk b3 38 [.pointer (some ⟨b2, 0, none⟩)]) hst (.tail _ (.tail _ (.head _)))
    have hV4 := Ro.of_pre hst hV2
    have hM4 := Ro.of_pre hst hM2
    have hls := look_srt ms (getD_mem (k := x.val) 0 x.isLt)
    refine TC.seq ?_
    refine TC.region ?_
    refine S.q rfl rfl (Qt.assign (by conv => lhs; whnf)) ?_
    refine S.nil ?_
    refine TC.region ?_
    refine S.opS rfl rfl (OpV.alloc Try.zero58 (fun b6 => ?_))
    refine S.opN rfl (OpV.storeV0 (v := hv (_)) rfl rfl (hv_size Try.cells58) (hv_all _) (by rw [hv_len]; rfl) ?_)
    refine S.nil ?_
    refine ⟨_, Sub.trans (Sub.keep _ (Sub.refl _)) (Sub.of_perm (List.perm_middle (l₁ := [_]))), ?_⟩
    refine TC.block ?_
    refine TC.seq ?_
    refine TC.region ?_
    refine S.q rfl rfl (Qt.load rfl (Ld.one (v := .pointer (some ⟨b2, 0, none⟩)) (Has.ro hb3) Try.one38 rfl)) ?_
    refine S.q rfl rfl (Qt.nilCheck rfl) ?_
    refine S.q rfl rfl (Qt.field Try.underlying73 rfl Try.cells71 rfl) ?_
    refine S.q rfl rfl (Qt.load rfl (Ld.one (v := .map (some bm2)) (Has.ro hV4) Try.one71 rfl)) ?_
    refine S.q rfl rfl (Qt.move (by conv => lhs; whnf)) ?_
    refine S.q rfl rfl (Qt.as (v' := .tuple #[hv (getM ms ((srt (keysOf ms)).getD x.val 0)), .bool true]) (Qt.lookup_ok Try.underlying71 Try.keyU Try.z58 rfl rfl (Has.ro hM4)) (by rw [z_read, hls])) ?_
    refine S.q rfl rfl (Qt.move (by conv => lhs; whnf)) ?_
    refine S.q rfl rfl (Qt.extract rfl rfl) ?_
    refine S.q rfl rfl (Qt.extract rfl rfl) ?_
    refine S.opS rfl rfl (OpV.alloc Try.zero58 (fun b7 => ?_))
    refine S.opN rfl (OpV.storeV0 (v := hv (_)) rfl rfl (hv_size Try.cells58) (hv_all _) (by rw [hv_len]; rfl) ?_)
    refine S.q rfl rfl (Qt.assign (by conv => lhs; whnf)) ?_
    refine S.nil ?_
    refine TC.seq ?_
    refine TC.region ?_
    refine S.q rfl rfl (Qt.move (by conv => lhs; whnf)) ?_
    refine S.q rfl rfl (Qt.not_t rfl) ?_
    refine S.q rfl rfl (Qt.move (by conv => lhs; whnf)) ?_
    refine S.qg rfl rfl rfl (Qt.load rfl (Ld.all (vs := hvl (getM ms ((srt (keysOf ms)).getD x.val 0))) (Has.at 0 rfl) Try.row58 (by rw [hvl_length]; exact Try.cells58))) ?_
    refine S.qg rfl rfl rfl (Qt.load rfl (Ld.all (vs := hvl (getM ms ((srt (keysOf ms)).getD x.val 0))) (Has.at 2 rfl) Try.row58 (by rw [hvl_length]; exact Try.cells58))) ?_
    refine S.qg rfl rfl rfl (Qt.dF (Qt.neH (a := getM ms ((srt (keysOf ms)).getD x.val 0)) (b := getM ms ((srt (keysOf ms)).getD x.val 0)) Try.guard58 Try.underlying58 Try.underlying5 Try.cells5 rfl rfl) (fun h => h rfl)) ?_
    refine S.q rfl rfl (Qt.pick_f rfl (by conv => lhs; whnf)) ?_
    refine S.nil ?_
    refine S.if_f rfl ?_
    refine TC.skip ?_
    exact ⟨_, Sub.trans (Sub.keep _ (Sub.keep _ (Sub.drop _ (Sub.drop _ (Sub.nil []))))) (Sub.trans (Sub.keep _ (Sub.trans (Sub.keep _ (Sub.refl _)) (Sub.of_perm (List.perm_middle (l₁ := [_, _]))))) (Sub.of_perm (List.perm_middle (l₁ := [_])))), rfl⟩
  · rintro Dd ys L' rfl rfl
    refine TC.seq ?_
    refine TC.region ?_
    refine S.opN rfl (OpV.storeV2 rfl (by conv => lhs; whnf) (by exact Try.cells4) (by rfl) (by rfl) ?_)
    refine S.nil ?_
    refine TC.ret ?_
    refine finQ.retM rfl (Sub.refl _) (RVs.cell rfl (Ld.one (Has.at 1 rfl) Try.one4 (rfl)) RVs.nil) (Sub.nil _) ?_
    exact ⟨rfl, rfl⟩
end Go.Proofs.Ytaoicbjgkghnnaa
