/-
  Walks: what single functions of the program compute. Printed by a program of ours.
-/
import Derived.Test.YtaoicbjgkghnnaaMY
import Derived.Test.YtaoicbjgkghnnaaProg
namespace Go.Proofs.Ytaoicbjgkghnnaa
open Go.E
set_option linter.unusedVariables false
set_option maxRecDepth 4000
theorem Try.cells3 : (Try.prog.info? 3).map (·.size) = some 1 := by kernel_rfl
theorem Try.one3 : oneT Try.prog 3 = true := by kernel_rfl
theorem Try.cells4 : (Try.prog.info? 4).map (·.size) = some 1 := by kernel_rfl
theorem Try.one4 : oneT Try.prog 4 = true := by kernel_rfl
theorem Try.cells5 : (Try.prog.info? 5).map (·.size) = some 1 := by kernel_rfl
theorem Try.one5 : oneT Try.prog 5 = true := by kernel_rfl
theorem Try.cells22 : (Try.prog.info? 22).map (·.size) = some 1 := by kernel_rfl
theorem Try.one22 : oneT Try.prog 22 = true := by kernel_rfl
theorem Try.cells23 : (Try.prog.info? 23).map (·.size) = some 1 := by kernel_rfl
theorem Try.one23 : oneT Try.prog 23 = true := by kernel_rfl
theorem Try.cells24 : (Try.prog.info? 24).map (·.size) = some 1 := by kernel_rfl
theorem Try.one24 : oneT Try.prog 24 = true := by kernel_rfl
theorem Try.cells26 : (Try.prog.info? 26).map (·.size) = some 5 := by kernel_rfl
theorem Try.row26 : rowT Try.prog 26 = true := by kernel_rfl
theorem Try.cells38 : (Try.prog.info? 38).map (·.size) = some 1 := by kernel_rfl
theorem Try.one38 : oneT Try.prog 38 = true := by kernel_rfl
theorem Try.cells58 : (Try.prog.info? 58).map (·.size) = some 32 := by kernel_rfl
theorem Try.row58 : rowT Try.prog 58 = true := by kernel_rfl
theorem Try.cells71 : (Try.prog.info? 71).map (·.size) = some 1 := by kernel_rfl
theorem Try.one71 : oneT Try.prog 71 = true := by kernel_rfl
theorem Try.zero4 : zeroOf Try.prog 4 = some [.bool false] := by kernel_rfl
theorem Try.zero26 : zeroOf Try.prog 26 = some ([.int .i64 0] ++ [.slice none 0 0] ++ [.slice none 0 0] ++ [.int .u64 0] ++ [.int .i64 0]) := by kernel_rfl
theorem Try.zero58 : zeroOf Try.prog 58 = some (List.replicate 32 (.int .u8 0)) := by kernel_rfl
theorem Try.ent7 : Enters Try.prog 7 := ⟨_, Try.func7, by kernel_rfl, rfl⟩
theorem Try.ent8 : Enters Try.prog 8 := ⟨_, Try.func8, by kernel_rfl, rfl⟩
theorem Try.ent9 : Enters Try.prog 9 := ⟨_, Try.func9, by kernel_rfl, rfl⟩
theorem Try.ent10 : Enters Try.prog 10 := ⟨_, Try.func10, by kernel_rfl, rfl⟩
theorem Try.ent11 : Enters Try.prog 11 := ⟨_, Try.func11, by kernel_rfl, rfl⟩
theorem Try.ent12 : Enters Try.prog 12 := ⟨_, Try.func12, by kernel_rfl, rfl⟩
theorem Try.ent13 : Enters Try.prog 13 := ⟨_, Try.func13, by kernel_rfl, rfl⟩
theorem Try.ent14 : Enters Try.prog 14 := ⟨_, Try.func14, by kernel_rfl, rfl⟩
theorem Try.ent15 : Enters Try.prog 15 := ⟨_, Try.func15, by kernel_rfl, rfl⟩
theorem Try.ent16 : Enters Try.prog 16 := ⟨_, Try.func16, by kernel_rfl, rfl⟩
theorem Try.ent19 : Enters Try.prog 19 := ⟨_, Try.func19, by kernel_rfl, rfl⟩
theorem Try.ent21 : Enters Try.prog 21 := ⟨_, Try.func21, by kernel_rfl, rfl⟩
theorem Try.ent22 : Enters Try.prog 22 := ⟨_, Try.func22, by kernel_rfl, rfl⟩
theorem Try.ent23 : Enters Try.prog 23 := ⟨_, Try.func23, by kernel_rfl, rfl⟩
theorem Try.ent24 : Enters Try.prog 24 := ⟨_, Try.func24, by kernel_rfl, rfl⟩
theorem Try.ent25 : Enters Try.prog 25 := ⟨_, Try.func25, by kernel_rfl, rfl⟩
theorem Try.ent26 : Enters Try.prog 26 := ⟨_, Try.func26, by kernel_rfl, rfl⟩
theorem Try.ent27 : Enters Try.prog 27 := ⟨_, Try.func27, by kernel_rfl, rfl⟩
theorem Try.ent28 : Enters Try.prog 28 := ⟨_, Try.func28, by kernel_rfl, rfl⟩
theorem Try.ent29 : Enters Try.prog 29 := ⟨_, Try.func29, by kernel_rfl, rfl⟩
theorem Try.ent30 : Enters Try.prog 30 := ⟨_, Try.func30, by kernel_rfl, rfl⟩
theorem Try.ent37 : Enters Try.prog 37 := ⟨_, Try.func37, by kernel_rfl, rfl⟩
theorem Try.ent38 : Enters Try.prog 38 := ⟨_, Try.func38, by kernel_rfl, rfl⟩
theorem Try.ent39 : Enters Try.prog 39 := ⟨_, Try.func39, by kernel_rfl, rfl⟩
theorem Try.ent40 : Enters Try.prog 40 := ⟨_, Try.func40, by kernel_rfl, rfl⟩
theorem Try.mixed : Try.prog.follows .mixedOrders = true := by kernel_rfl
theorem Try.keyU : KeyLaw Try.prog 24 encU := Go.E.keyU Try.underlying24
theorem Try.z58 : zero1 Try.prog 58 = some (hv zeroH) := by kernel_rfl
theorem Try.elem58 : elemT Try.prog 58 32 32 := elemT_of (by kernel_rfl)
theorem Try.elem24 : elemT Try.prog 24 1 8 := elemT_of (by kernel_rfl)
theorem Try.guard58 : Try.prog.eqGuardType Try.prog.depth 58 = false := by kernel_rfl
theorem Try.elem26 : elemT Try.prog 26 5 72 := elemT_of (by kernel_rfl)
set_option maxHeartbeats 400000 in
theorem resize1_walk (b3 q x : Nat) (v1 : Value) (w0 : World) (h3 : Ro w0 [] (Blk b3 24 [.int .u64 (q : Int)])) :
    Calls Try.prog 39 #[.int .u64 (x : Int), v1, .pointer (some ⟨b3, 0, none⟩)] w0 (Post w0 [] fun v L => v = .bool (decide (q ≤ x)) ∧ L = []) := by
  refine Calls.of (L := []) (n := 9) (rs := [.tmp 5]) Try.func39 rfl rfl rfl (Nat.le_of_ble_eq_true rfl) (Sat.nil _) ?_
  refine TC.seq ?_
  refine TC.region ?_
  refine S.opS rfl rfl (OpV.box (by conv => lhs; whnf) (fun b4 => ?_))
  refine S.q rfl rfl (Qt.assign (by conv => lhs; whnf)) ?_
  refine S.nil ?_
  refine TC.seq ?_
  refine TC.region ?_
  refine S.q rfl rfl (Qt.move (by conv => lhs; whnf)) ?_
  refine S.q rfl rfl (Qt.load rfl (Ld.one (Has.ro h3) Try.one24 rfl)) ?_
  refine S.dec rfl rfl (Qt.ge rfl rfl) (fun h8 => ?_) (fun h8 => ?_)
  · refine S.q rfl rfl (Qt.assign (by conv => lhs; whnf)) ?_
    refine S.nil ?_
    refine TC.ret ?_
    refine finQ.ret (RVs.tmp (by conv => lhs; whnf) RVs.nil) (Sub.nil _) ?_
    exact ⟨by rw [decide_eq_true (show q ≤ x from h8)]; rfl, rfl⟩
  · refine S.q rfl rfl (Qt.assign (by conv => lhs; whnf)) ?_
    refine S.nil ?_
    refine TC.ret ?_
    refine finQ.ret (RVs.tmp (by conv => lhs; whnf) RVs.nil) (Sub.nil _) ?_
    exact ⟨by rw [decide_eq_false (show ¬ q ≤ x from h8)]; rfl, rfl⟩
theorem resize1_T (b3 q x : Nat) (v1 : Value) (w0 : World) (h3 : Ro w0 [] (Blk b3 24 [.int .u64 (q : Int)])) (h : q ≤ x) : Calls Try.prog 39 #[.int .u64 (x : Int), v1, .pointer (some ⟨b3, 0, none⟩)] w0 (Ret w0 (.bool true)) :=
  Calls.ret ((resize1_walk b3 q x v1 w0 h3).mono fun e w ⟨v, L, h1, h2, h3, h4⟩ => ⟨v, L, h1, h2, by rw [h3, decide_eq_true h], h4⟩)
theorem resize1_F (b3 q x : Nat) (v1 : Value) (w0 : World) (h3 : Ro w0 [] (Blk b3 24 [.int .u64 (q : Int)])) (h : ¬ q ≤ x) : Calls Try.prog 39 #[.int .u64 (x : Int), v1, .pointer (some ⟨b3, 0, none⟩)] w0 (Ret w0 (.bool false)) :=
  Calls.ret ((resize1_walk b3 q x v1 w0 h3).mono fun e w ⟨v, L, h1, h2, h3, h4⟩ => ⟨v, L, h1, h2, by rw [h3, decide_eq_false h], h4⟩)

set_option maxHeartbeats 400000 in
theorem delFunc_walk (bm b3 q : Nat) (ms : Ms) (w0 : World) (hL : Sat w0 [MapA bm encU hv ms]) (h3 : Ro w0 [bm] (Blk b3 24 [.int .u64 (q : Int)])) :
    Calls Try.prog 38 #[.map (some bm), .func (.func 39) #[] #[.pointer (some ⟨b3, 0, none⟩)]] w0 (Post w0 [bm] fun v L => L = [MapA bm encU hv (keep q ms)]) := by
  refine Calls.of (L := [MapA bm encU hv ms]) (n := 19) (rs := []) Try.func38 rfl rfl rfl (Nat.le_of_ble_eq_true rfl) (hL) ?_
  refine TC.mapNodup (Has.at 0 rfl) (fun hn => ?_)
  refine TC.seq ?_
  refine TC.region ?_
  refine S.q rfl rfl (Qt.move (by conv => lhs; whnf)) ?_
  refine S.opS rfl rfl (OpV.range0 Try.underlying71 rfl (fun it => ?_))
  refine S.nil ?_
  refine TC.block ?_
  refine TC.loop (γ := List Nat) [8, 9, 10, 11, 12, 5, 4, 13, 14, 15, 16, 17, 18] (fun done => []) (fun done => [MapI bm it encU hv (cur q ms done) done]) (fun done => done.Nodup ∧ ∀ x ∈ done, x ∈ keysOf ms) (fun done => ms.length - done.length) ([])
    ⟨List.nodup_nil, (fun _ h => nomatch h)⟩ ⟨Out.refl _ _, (fun _ h => nomatch h)⟩ (by rw [cur_nil]; exact Sub.refl _) ?_
  rintro done u hinv
  refine TC.seq ?_
  refine TC.region ?_
  refine S.opS rfl rfl (OpV.nextI0 (fun _ _ => encU_inj) rfl (fun hend => ?_) (fun x a hm hd => ?_))
  · refine TL.endI0 ?_
    refine S.q rfl rfl (Qt.extract rfl rfl) ?_
    refine S.nil ?_
    refine TC.seq ?_
    refine S.if_f rfl ?_
    refine TC.exit ?_
    refine finQ.normal RVs.nil (Sub.refl _) ?_
    rw [cur_end hend]
  · refine S.q rfl rfl (Qt.extract rfl rfl) ?_
    refine S.nil ?_
    refine TC.seq ?_
    refine S.if_t rfl ?_
    refine TC.skip ?_
    refine TC.block ?_
    refine TC.seq ?_
    refine TC.region ?_
    refine S.q rfl rfl (Qt.entryI (fun _ _ => encU_inj) rfl (Has.at 0 rfl) hm) ?_
    refine S.q rfl rfl (Qt.extract rfl rfl) ?_
    refine S.q rfl rfl (Qt.extract rfl rfl) ?_
    refine S.opS rfl rfl (OpV.alloc Try.zero58 (fun b5 => ?_))
    refine S.q rfl rfl (Qt.assign (by conv => lhs; whnf)) ?_
    refine S.opN rfl (OpV.storeV0 rfl (by conv => lhs; whnf) (by show _ = some (hvl a).length; rw [hvl_length]; exact Try.cells58) (by show List.all (hvl a) _ = true; exact List.all_eq_true.2 (bytesL_one _)) (by show (hvl a).length = _; rw [hvl_length]; rfl) ?_)
    refine S.nil ?_
    refine TC.seq ?_
    refine TC.region ?_
    refine S.q rfl rfl (Qt.move (by conv => lhs; whnf)) ?_
    refine S.q rfl rfl (Qt.move (by conv => lhs; whnf)) ?_
    refine S.q rfl rfl (Qt.load rfl (Ld.all (Has.at 0 rfl) Try.row58 (by show _ = some (hvl a).length; rw [hvl_length]; exact Try.cells58))) ?_
    by_cases hq : q ≤ x
    · refine S.opS rfl rfl (OpV.con0 Try.ent39 rfl (fun w hw => resize1_T b3 q x _ w (Rd.ro h3 w hw) hq) ?_)
      refine S.nil ?_
      refine S.if_t rfl ?_
      refine TC.region ?_
      refine S.q rfl rfl (Qt.move (by conv => lhs; whnf)) ?_
      refine S.q rfl rfl (Qt.move (by conv => lhs; whnf)) ?_
      refine S.opN rfl (OpV.delI1 rfl Try.underlying71 Try.keyU rfl rfl ?_)
      refine S.nil ?_
      refine ⟨done ++ [x], ?_, ?_, ⟨?_, (fun _ h => nomatch h)⟩, (by dsimp only; rw [← cur_del hn done hq]; exact Sub.drop _ (Sub.refl _))⟩
      · exact (done_step hinv.1 hinv.2 (cur_sub hm) hd).1
      · exact (done_step hinv.1 hinv.2 (cur_sub hm) hd).2
      repeat (first | exact Out.refl _ _ | refine Out.put rfl ?_ | refine Out.puts rfl ?_ | refine Out.scr ?_ | refine Out.scr' rfl ?_)
    · refine S.opS rfl rfl (OpV.con0 Try.ent39 rfl (fun w hw => resize1_F b3 q x _ w (Rd.ro h3 w hw) hq) ?_)
      refine S.nil ?_
      refine S.if_f rfl ?_
      refine TC.skip ?_
      refine ⟨done ++ [x], ?_, ?_, ⟨?_, (fun _ h => nomatch h)⟩, (by dsimp only; rw [cur_skip ms done hq]; exact Sub.drop _ (Sub.refl _))⟩
      · exact (done_step hinv.1 hinv.2 (cur_sub hm) hd).1
      · exact (done_step hinv.1 hinv.2 (cur_sub hm) hd).2
      repeat (first | exact Out.refl _ _ | refine Out.put rfl ?_ | refine Out.puts rfl ?_ | refine Out.scr ?_ | refine Out.scr' rfl ?_)
set_option maxHeartbeats 400000 in
theorem of_walk (b bm n : Nat) (w0 : World) (hV : Ro w0 [] (Blk b 73 [.int .u64 (n : Int), .map (some bm)])) :
    Calls Try.prog 37 #[.pointer (some ⟨b, 0, none⟩)] w0 (Post w0 [] fun v L => v = .tuple #[.int .u64 (n : Int), .nilIface] ∧ L = []) := by
  refine Calls.of (L := []) (n := 11) (rs := [.tmp 2, .tmp 3]) Try.func37 rfl rfl rfl (Nat.le_of_ble_eq_true rfl) (Sat.nil _) ?_
  refine TC.seq ?_
  refine TC.region ?_
  refine S.q rfl rfl (Qt.assign (by conv => lhs; whnf)) ?_
  refine S.q rfl rfl (Qt.assign (by conv => lhs; whnf)) ?_
  refine S.nil ?_
  refine TC.seq ?_
  refine TC.seq ?_
  refine TC.region ?_
  refine S.q rfl rfl (Qt.move (by conv => lhs; whnf)) ?_
  refine S.q rfl rfl (Qt.eqp_some Try.underlying38 rfl) ?_
  refine S.nil ?_
  refine S.if_f rfl ?_
  refine TC.skip ?_
  refine TC.seq ?_
  refine TC.region ?_
  refine S.q rfl rfl (Qt.move (by conv => lhs; whnf)) ?_
  refine S.q rfl rfl (Qt.nilCheck rfl) ?_
  refine S.q rfl rfl (Qt.field Try.underlying73 rfl Try.cells24 rfl) ?_
  refine S.q rfl rfl (Qt.load rfl (Ld.one (Has.ro hV) Try.one24 rfl)) ?_
  refine S.q rfl rfl (Qt.assign (by conv => lhs; whnf)) ?_
  refine S.q rfl rfl (Qt.assign (by conv => lhs; whnf)) ?_
  refine S.nil ?_
  refine TC.ret ?_
  refine finQ.ret (RVs.tmp (by conv => lhs; whnf) (RVs.tmp (by conv => lhs; whnf) RVs.nil)) (Sub.nil _) ?_
  exact ⟨rfl, rfl⟩
theorem of_R (b bm n : Nat) (w0 : World) (hV : Ro w0 [] (Blk b 73 [.int .u64 (n : Int), .map (some bm)])) : Calls Try.prog 37 #[.pointer (some ⟨b, 0, none⟩)] w0 (Ret w0 (.tuple #[.int .u64 (n : Int), .nilIface])) := Calls.ret (of_walk b bm n w0 hV)

set_option maxHeartbeats 400000 in
theorem sized_walk (n : Nat) (w0 : World) :
    Calls Try.prog 29 #[.int .u64 (n : Int)] w0 (Post w0 [] fun v L => v = .bool (decide (1 ≤ n ∧ n ≤ 4294967296)) ∧ L = []) := by
  refine Calls.of (L := []) (n := 9) (rs := [.tmp 2]) Try.func29 rfl rfl rfl (Nat.le_of_ble_eq_true rfl) (Sat.nil _) ?_
  refine TC.seq ?_
  refine TC.region ?_
  refine S.q rfl rfl (Qt.assign (by conv => lhs; whnf)) ?_
  refine S.nil ?_
  refine TC.seq ?_
  refine TC.region ?_
  refine S.q rfl rfl (Qt.move (by conv => lhs; whnf)) ?_
  refine S.dec rfl rfl (Qt.ge (b := 1) rfl rfl) (fun h4 => ?_) (fun h4 => ?_)
  · refine S.q rfl rfl (Qt.move (by conv => lhs; whnf)) ?_
    refine S.qg rfl rfl rfl (Qt.move (by conv => lhs; whnf)) ?_
    refine S.decg rfl rfl rfl (Qt.le (b := 4294967296) rfl rfl) (fun h7 => ?_) (fun h7 => ?_)
    · refine S.q rfl rfl (Qt.pick_t rfl (by conv => lhs; whnf)) ?_
      refine S.q rfl rfl (Qt.assign (by conv => lhs; whnf)) ?_
      refine S.nil ?_
      refine TC.ret ?_
      refine finQ.ret (RVs.tmp (by conv => lhs; whnf) RVs.nil) (Sub.nil _) ?_
      exact ⟨by simp [pack, *], rfl⟩
    · refine S.q rfl rfl (Qt.pick_t rfl (by conv => lhs; whnf)) ?_
      refine S.q rfl rfl (Qt.assign (by conv => lhs; whnf)) ?_
      refine S.nil ?_
      refine TC.ret ?_
      refine finQ.ret (RVs.tmp (by conv => lhs; whnf) RVs.nil) (Sub.nil _) ?_
      exact ⟨by simp [pack, *], rfl⟩
  · refine S.q rfl rfl (Qt.move (by conv => lhs; whnf)) ?_
    refine S.pass rfl rfl ?_
    refine S.pass rfl rfl ?_
    refine S.q rfl rfl (Qt.pick_f rfl (by conv => lhs; whnf)) ?_
    refine S.q rfl rfl (Qt.assign (by conv => lhs; whnf)) ?_
    refine S.nil ?_
    refine TC.ret ?_
    refine finQ.ret (RVs.tmp (by conv => lhs; whnf) RVs.nil) (Sub.nil _) ?_
    exact ⟨by simp [pack, *], rfl⟩
theorem sized_T (n : Nat) (w0 : World) (h : 1 ≤ n ∧ n ≤ 4294967296) : Calls Try.prog 29 #[.int .u64 (n : Int)] w0 (Ret w0 (.bool true)) :=
  Calls.ret ((sized_walk n w0).mono fun e w ⟨v, L, h1, h2, h3, h4⟩ => ⟨v, L, h1, h2, by rw [h3, decide_eq_true h], h4⟩)
theorem sized_F (n : Nat) (w0 : World) (h : ¬ (1 ≤ n ∧ n ≤ 4294967296)) : Calls Try.prog 29 #[.int .u64 (n : Int)] w0 (Ret w0 (.bool false)) :=
  Calls.ret ((sized_walk n w0).mono fun e w ⟨v, L, h1, h2, h3, h4⟩ => ⟨v, L, h1, h2, by rw [h3, decide_eq_false h], h4⟩)

set_option maxHeartbeats 400000 in
theorem resize_walk (b bm n q : Nat) (ms : Ms) (w0 : World) (hL : Sat w0 [MapA bm encU hv ms, Blk b 73 [.int .u64 (n : Int), .map (some bm)]]) (hl : ms.length ≤ 9223372036854775806) :
    Calls Try.prog 22 #[.pointer (some ⟨b, 0, none⟩), .int .u64 (q : Int)] w0 (Post w0 [bm, b] fun v L => v = errv 42 (resizeM n ms q).1 ∧ L = [MapA bm encU hv (resizeM n ms q).2.2, Blk b 73 [.int .u64 (((resizeM n ms q).2.1 : Nat) : Int), .map (some bm)]]) := by
  refine Calls.of (L := [MapA bm encU hv ms, Blk b 73 [.int .u64 (n : Int), .map (some bm)]]) (n := 48) (rs := [.tmp 4]) Try.func22 rfl rfl rfl (Nat.le_of_ble_eq_true rfl) (hL) ?_
  refine TC.mapNodup (Has.at 0 rfl) (fun hn => ?_)
  refine TC.seq ?_
  refine TC.region ?_
  refine S.opS rfl rfl (OpV.box (by conv => lhs; whnf) (fun b3 => ?_))
  refine S.q rfl rfl (Qt.assign (by conv => lhs; whnf)) ?_
  refine S.nil ?_
  refine TC.seq ?_
  refine TC.seq ?_
  refine TC.region ?_
  refine S.q rfl rfl (Qt.move (by conv => lhs; whnf)) ?_
  refine S.opS rfl rfl (OpV.con0 Try.ent37 rfl (fun w hw => of_R b bm n w (Rd.at 2 rfl w hw)) ?_)
  refine S.q rfl rfl (Qt.move (by conv => lhs; whnf)) ?_
  refine S.q rfl rfl (Qt.extract rfl rfl) ?_
  refine S.q rfl rfl (Qt.extract rfl rfl) ?_
  refine S.q rfl rfl (Qt.assign (by conv => lhs; whnf)) ?_
  refine S.q rfl rfl (Qt.assign (by conv => lhs; whnf)) ?_
  refine S.nil ?_
  refine TC.seq ?_
  refine TC.region ?_
  refine S.q rfl rfl (Qt.move (by conv => lhs; whnf)) ?_
  refine S.q rfl rfl (Qt.nenil_nil Try.underlying30 rfl) ?_
  refine S.nil ?_
  refine S.if_f rfl ?_
  refine TC.skip ?_
  refine TC.seq ?_
  refine TC.seq ?_
  refine TC.region ?_
  refine S.q rfl rfl (Qt.load rfl (Ld.one (Has.at 0 rfl) Try.one24 rfl)) ?_
  by_cases hs : 1 ≤ q ∧ q ≤ 4294967296
  · refine S.opS rfl rfl (OpV.con0 Try.ent29 rfl (fun w hw => sized_T q w hs) ?_)
    refine S.q rfl rfl (Qt.not_t rfl) ?_
    refine S.nil ?_
    refine S.if_f rfl ?_
    refine TC.skip ?_
    refine TC.seq ?_
    refine TC.region ?_
    refine S.q rfl rfl (Qt.assign (by conv => lhs; whnf)) ?_
    refine S.nil ?_
    refine TC.seq ?_
    refine TC.seq ?_
    refine TC.region ?_
    refine S.q rfl rfl (Qt.move (by conv => lhs; whnf)) ?_
    refine S.q rfl rfl (Qt.nilCheck rfl) ?_
    refine S.q rfl rfl (Qt.field Try.underlying73 rfl Try.cells71 rfl) ?_
    refine S.q rfl rfl (Qt.load rfl (Ld.one (Has.at 2 rfl) Try.one71 rfl)) ?_
    refine S.opS rfl rfl (OpV.range1 Try.underlying71 rfl (fun it => ?_))
    refine S.nil ?_
    refine TC.block ?_
    refine TC.loop (γ := List Nat) [26, 27, 28, 29, 8, 30, 31, 32, 33, 34, 7] (fun done => [(7, .int .i64 ((cnt q done : Nat) : Int))]) (fun done => [Blk b3 24 [.int .u64 (q : Int)], MapI bm it encU hv ms done, Blk b 73 [.int .u64 (n : Int), .map (some bm)]]) (fun done => done.Nodup ∧ ∀ x ∈ done, x ∈ keysOf ms) (fun done => ms.length - done.length) ([])
      ⟨List.nodup_nil, (fun _ h => nomatch h)⟩ ⟨Out.refl _ _, (List.forall_mem_cons.2 ⟨rfl, (fun _ h => nomatch h)⟩)⟩ (Sub.refl _) ?_
    rintro done u hinv
    refine TC.seq ?_
    refine TC.region ?_
    refine S.opS rfl rfl (OpV.nextI1 (fun _ _ => encU_inj) rfl (fun hend => ?_) (fun x a hm hd => ?_))
    · refine TL.endI1 ?_
      refine S.q rfl rfl (Qt.extract rfl rfl) ?_
      refine S.nil ?_
      refine TC.seq ?_
      refine S.if_f rfl ?_
      refine TC.exit ?_
      refine TC.seq ?_
      refine TC.seq ?_
      refine TC.region ?_
      refine S.q rfl rfl (Qt.move (by conv => lhs; whnf)) ?_
      refine S.dec rfl rfl (Qt.gt (b := 256) rfl rfl) (fun h36 => ?_) (fun h36 => ?_)
      · refine S.nil ?_
        refine S.if_t rfl ?_
        refine TC.seq ?_
        refine TC.region ?_
        refine S.q rfl rfl (Qt.makeInterface Try.underlying42 (fun _ h => nomatch h) (by conv => lhs; whnf)) ?_
        refine S.q rfl rfl (Qt.assign (by conv => lhs; whnf)) ?_
        refine S.nil ?_
        refine TC.ret ?_
        refine finQ.ret (RVs.tmp (by conv => lhs; whnf) RVs.nil) (Sub.drop _ (Sub.refl _)) ?_
        rw [resizeM_far hs (by rw [← cnt_end hn hinv.1 hinv.2 hend]; exact h36)]
        exact ⟨rfl, rfl⟩
      · refine S.nil ?_
        refine S.if_f rfl ?_
        refine TC.skip ?_
        refine TC.seq ?_
        refine TC.region ?_
        refine S.q rfl rfl (Qt.move (by conv => lhs; whnf)) ?_
        refine S.q rfl rfl (Qt.nilCheck rfl) ?_
        refine S.q rfl rfl (Qt.field Try.underlying73 rfl Try.cells71 rfl) ?_
        refine S.q rfl rfl (Qt.load rfl (Ld.one (Has.at 2 rfl) Try.one71 rfl)) ?_
        refine S.q rfl rfl (Qt.makeFuncL (fs := []) (cs := [.pointer (some ⟨b3, 0, none⟩)]) rfl rfl) ?_
        refine S.opS rfl rfl (OpV.con (Pre := [MapA bm encU hv ms]) (R := _) Try.ent38 rfl (List.Perm.swap _ _ _) (fun w hw => delFunc_walk bm b3 q ms w hw.sat.left (Ro.of_rest hw (List.mem_cons_self ..))) ?_)
        rintro v L' rfl
        refine S.nil ?_
        refine TC.seq ?_
        refine TC.region ?_
        refine S.q rfl rfl (Qt.move (by conv => lhs; whnf)) ?_
        refine S.q rfl rfl (Qt.load rfl (Ld.one (Has.at 1 rfl) Try.one24 rfl)) ?_
        refine S.q rfl rfl (Qt.nilCheck rfl) ?_
        refine S.q rfl rfl (Qt.field Try.underlying73 rfl Try.cells24 rfl) ?_
        refine S.opN rfl (OpV.storeC2 rfl (by conv => lhs; whnf) Try.cells24 rfl rfl (Nat.le_of_ble_eq_true rfl) ?_)
        refine S.nil ?_
        refine TC.seq ?_
        refine TC.region ?_
        refine S.q rfl rfl (Qt.assign (by conv => lhs; whnf)) ?_
        refine S.nil ?_
        refine TC.ret ?_
        refine finQ.ret (RVs.tmp (by conv => lhs; whnf) RVs.nil) (Sub.keep _ (Sub.drop _ (Sub.refl _))) ?_
        rw [resizeM_ok hs (by rw [← cnt_end hn hinv.1 hinv.2 hend]; exact h36)]
        exact ⟨rfl, rfl⟩
    · refine S.q rfl rfl (Qt.extract rfl rfl) ?_
      refine S.nil ?_
      refine TC.seq ?_
      refine S.if_t rfl ?_
      refine TC.skip ?_
      refine TC.block ?_
      refine TC.seq ?_
      refine TC.region ?_
      refine S.q rfl rfl (Qt.entryI (fun _ _ => encU_inj) rfl (Has.at 1 rfl) hm) ?_
      refine S.q rfl rfl (Qt.extract rfl rfl) ?_
      refine S.q rfl rfl (Qt.assign (by conv => lhs; whnf)) ?_
      refine S.nil ?_
      refine TC.seq ?_
      refine TC.region ?_
      refine S.q rfl rfl (Qt.move (by conv => lhs; whnf)) ?_
      refine S.q rfl rfl (Qt.load rfl (Ld.one (Has.at 0 rfl) Try.one24 rfl)) ?_
      refine S.dec rfl rfl (Qt.ge rfl rfl) (fun h32 => ?_) (fun h32 => ?_)
      · refine S.nil ?_
        refine S.if_t rfl ?_
        refine TC.region ?_
        refine S.q rfl rfl (Qt.move (by conv => lhs; whnf)) ?_
        have hcnt := cnt_le q hinv.1 hinv.2
        refine S.q rfl rfl (Qt.add (b := 1) rfl rfl (by simp only [kmax]; omega)) ?_
        refine S.q rfl rfl (Qt.assign (by conv => lhs; whnf)) ?_
        refine S.nil ?_
        refine ⟨done ++ [x], ?_, ?_, ⟨?_, (List.forall_mem_cons.2 ⟨congrArg (fun m : Nat => Value.int .i64 (m : Int)) (show cnt q done + 1 = cnt q (done ++ [x]) by rw [cnt_step, if_pos h32]), (fun _ h => nomatch h)⟩)⟩, Sub.refl _⟩
        · exact (done_step hinv.1 hinv.2 hm hd).1
        · exact (done_step hinv.1 hinv.2 hm hd).2
        repeat (first | exact Out.refl _ _ | refine Out.put rfl ?_ | refine Out.puts rfl ?_ | refine Out.scr ?_ | refine Out.scr' rfl ?_)
      · refine S.nil ?_
        refine S.if_f rfl ?_
        refine TC.skip ?_
        refine ⟨done ++ [x], ?_, ?_, ⟨?_, (List.forall_mem_cons.2 ⟨congrArg (fun m : Nat => Value.int .i64 (m : Int)) (show cnt q done = cnt q (done ++ [x]) by rw [cnt_step, if_neg h32]; rfl), (fun _ h => nomatch h)⟩)⟩, Sub.refl _⟩
        · exact (done_step hinv.1 hinv.2 hm hd).1
        · exact (done_step hinv.1 hinv.2 hm hd).2
        repeat (first | exact Out.refl _ _ | refine Out.put rfl ?_ | refine Out.puts rfl ?_ | refine Out.scr ?_ | refine Out.scr' rfl ?_)
  · refine S.opS rfl rfl (OpV.con0 Try.ent29 rfl (fun w hw => sized_F q w hs) ?_)
    refine S.q rfl rfl (Qt.not_f rfl) ?_
    refine S.nil ?_
    refine S.if_t rfl ?_
    refine TC.seq ?_
    refine TC.region ?_
    refine S.q rfl rfl (Qt.makeInterface Try.underlying42 (fun _ h => nomatch h) (by conv => lhs; whnf)) ?_
    refine S.q rfl rfl (Qt.assign (by conv => lhs; whnf)) ?_
    refine S.nil ?_
    refine TC.ret ?_
    refine finQ.ret (RVs.tmp (by conv => lhs; whnf) RVs.nil) (Sub.drop _ (Sub.refl _)) ?_
    rw [resizeM_bad hs]
    exact ⟨rfl, rfl⟩
set_option maxHeartbeats 400000 in
theorem modelAsked_walk (A : Option Addr) (c : Nat) (xs : List Nat) (n : Nat) (w0 : World) (hR : Ro w0 [] (SlA A (u64s xs))) (hc : xs.length ≤ c) (hm : c ≤ 9223372036854775807) :
    Calls Try.prog 9 #[.slice A xs.length c, .int .u64 (n : Int)] w0 (Post w0 [] fun v L => v = errv 42 (asked xs n) ∧ L = []) := by
  refine Calls.of (L := []) (n := 42) (rs := [.tmp 4]) Try.func9 rfl rfl rfl (Nat.le_of_ble_eq_true rfl) (Sat.nil _) ?_
  refine TC.seq ?_
  refine TC.region ?_
  refine S.q rfl rfl (Qt.assign (by conv => lhs; whnf)) ?_
  refine S.nil ?_
  refine TC.seq ?_
  refine TC.block ?_
  refine TC.seq ?_
  refine TC.region ?_
  refine S.q rfl rfl (Qt.move (by conv => lhs; whnf)) ?_
  refine S.q rfl rfl (Qt.len_slice Try.underlying22 rfl) ?_
  refine S.dec rfl rfl (Qt.gt (b := 256) rfl rfl) (fun h10 => ?_) (fun h10 => ?_)
  · refine S.q rfl rfl (Qt.assign (by conv => lhs; whnf)) ?_
    refine S.nil ?_
    refine S.if_t rfl ?_
    refine TC.seq ?_
    refine TC.region ?_
    refine S.q rfl rfl (Qt.makeInterface Try.underlying42 (fun _ h => nomatch h) (by conv => lhs; whnf)) ?_
    refine S.q rfl rfl (Qt.assign (by conv => lhs; whnf)) ?_
    refine S.nil ?_
    refine TC.ret ?_
    refine finQ.ret (RVs.tmp (by conv => lhs; whnf) RVs.nil) (Sub.nil _) ?_
    exact ⟨by rw [asked_large h10]; rfl, rfl⟩
  · refine S.q rfl rfl (Qt.assign (by conv => lhs; whnf)) ?_
    refine S.nil ?_
    refine S.if_f rfl ?_
    refine TC.seq ?_
    refine TC.region ?_
    refine S.q rfl rfl (Qt.move (by conv => lhs; whnf)) ?_
    refine S.q rfl rfl (Qt.len_slice Try.underlying22 rfl) ?_
    refine S.dec rfl rfl (Qt.eq (b := 0) rfl rfl) (fun h15 => ?_) (fun h15 => ?_)
    · refine S.q rfl rfl (Qt.assign (by conv => lhs; whnf)) ?_
      refine S.nil ?_
      refine S.if_t rfl ?_
      refine TC.seq ?_
      refine TC.region ?_
      refine S.q rfl rfl (Qt.makeInterface Try.underlying42 (fun _ h => nomatch h) (by conv => lhs; whnf)) ?_
      refine S.q rfl rfl (Qt.assign (by conv => lhs; whnf)) ?_
      refine S.nil ?_
      refine TC.ret ?_
      refine finQ.ret (RVs.tmp (by conv => lhs; whnf) RVs.nil) (Sub.nil _) ?_
      exact ⟨by rw [asked_none h15]; rfl, rfl⟩
    · refine S.q rfl rfl (Qt.assign (by conv => lhs; whnf)) ?_
      refine S.nil ?_
      refine S.if_f rfl ?_
      refine TC.skip ?_
      refine TC.seq ?_
      refine TC.seq ?_
      refine TC.region ?_
      refine S.q rfl rfl (Qt.move (by conv => lhs; whnf)) ?_
      refine S.q rfl rfl (Qt.slice_lo (l := 1) Try.underlying22 Try.cells24 rfl rfl (by omega)) ?_
      refine S.q rfl rfl (Qt.len_slice Try.underlying22 rfl) ?_
      refine S.q rfl rfl (Qt.move (by conv => lhs; whnf)) ?_
      refine S.nil ?_
      refine TC.block ?_
      refine TC.loop (γ := Nat) [21, 22, 23, 24, 5, 6, 25, 26, 27, 28, 29, 30, 31, 4, 32, 20] (fun k => [(20, .int .i64 (k : Int))]) (fun _ => _) (fun k => k + 1 ≤ xs.length ∧ ∀ i, i < k → xs.getD i 0 < xs.getD (i + 1) 0) (fun k => xs.length - k) (0)
        ⟨by omega, by omega⟩ ⟨Out.refl _ _, (List.forall_mem_cons.2 ⟨rfl, (fun _ h => nomatch h)⟩)⟩ (Sub.refl _) ?_
      rintro k u ⟨hk, hs⟩
      refine TC.seq ?_
      refine TC.region ?_
      refine S.dec rfl rfl (Qt.lt rfl rfl) (fun h21 => ?_) (fun h21 => ?_)
      · refine S.nil ?_
        refine TC.seq ?_
        refine S.if_t rfl ?_
        refine TC.skip ?_
        refine TC.seq ?_
        refine TC.block ?_
        refine TC.seq ?_
        refine TC.region ?_
        refine S.q rfl rfl (Qt.move (by conv => lhs; whnf)) ?_
        refine S.q rfl rfl (Qt.index Try.underlying22 Try.cells24 rfl rfl (by omega) (Has.cut (Has.ro hR) (fun _ => by rw [u64s_len]; omega)) (by rw [u64s_drop, u64s_len, List.length_drop]; omega)) ?_
        refine S.q rfl rfl (Qt.load rfl (Ld.sl (Has.cut (Has.ro hR) (fun _ => by rw [u64s_len]; omega)) Try.one24 ((by rw [u64s_drop]; exact u64s_get (xs := xs.drop 1) (by rw [List.length_drop]; omega) (Nat.mul_one _))))) ?_
        refine S.q rfl rfl (Qt.assign (by conv => lhs; whnf)) ?_
        refine S.q rfl rfl (Qt.assign (by conv => lhs; whnf)) ?_
        refine S.nil ?_
        refine TC.seq ?_
        refine TC.region ?_
        refine S.q rfl rfl (Qt.move (by conv => lhs; whnf)) ?_
        refine S.q rfl rfl (Qt.move (by conv => lhs; whnf)) ?_
        refine S.q rfl rfl (Qt.move (by conv => lhs; whnf)) ?_
        refine S.q rfl rfl (Qt.index Try.underlying22 Try.cells24 rfl rfl (by omega) (Has.ro hR) (by rw [u64s_len]; omega)) ?_
        refine S.q rfl rfl (Qt.load rfl (Ld.sl (Has.ro hR) Try.one24 (u64s_get (by omega) (Nat.mul_one _)))) ?_
        refine S.dec rfl rfl (Qt.le rfl rfl) (fun h30 => ?_) (fun h30 => ?_)
        · refine S.nil ?_
          refine S.if_t rfl ?_
          refine TC.seq ?_
          refine TC.region ?_
          refine S.q rfl rfl (Qt.makeInterface Try.underlying42 (fun _ h => nomatch h) (by conv => lhs; whnf)) ?_
          refine S.q rfl rfl (Qt.assign (by conv => lhs; whnf)) ?_
          refine S.nil ?_
          refine TC.ret ?_
          refine finQ.ret (RVs.tmp (by conv => lhs; whnf) RVs.nil) (Sub.nil _) ?_
          exact ⟨by rw [asked_fall h10 (i := k) (by omega) (by rw [drop_getD] at h30; exact h30)]; rfl, rfl⟩
        · refine S.nil ?_
          refine S.if_f rfl ?_
          refine TC.skip ?_
          refine TC.region ?_
          refine S.q rfl rfl (Qt.add (b := 1) rfl rfl (by simp only [kmax]; omega)) ?_
          refine S.q rfl rfl (Qt.move (by conv => lhs; whnf)) ?_
          refine S.nil ?_
          refine ⟨k + 1, ?_, ?_, ⟨?_, (List.forall_mem_cons.2 ⟨rfl, (fun _ h => nomatch h)⟩)⟩, Sub.refl _⟩
          · refine ⟨by omega, fun i hi => ?_⟩
            rcases Nat.lt_or_ge i k with h | h
            · exact hs i h
            · obtain rfl : i = k := by omega
              rw [drop_getD] at h30; omega
          · show _ < _; dsimp only; omega
          repeat (first | exact Out.refl _ _ | refine Out.put rfl ?_ | refine Out.puts rfl ?_ | refine Out.scr ?_ | refine Out.scr' rfl ?_)
      · refine S.nil ?_
        refine TC.seq ?_
        refine S.if_f rfl ?_
        refine TC.exit ?_
        refine TC.seq ?_
        refine TC.seq ?_
        refine TC.region ?_
        refine S.q rfl rfl (Qt.move (by conv => lhs; whnf)) ?_
        refine S.q rfl rfl (Qt.move (by conv => lhs; whnf)) ?_
        refine S.q rfl rfl (Qt.len_slice Try.underlying22 rfl) ?_
        refine S.q rfl rfl (Qt.sub (b := 1) rfl rfl (by omega) (by simp only [kmax]; omega)) ?_
        refine S.q rfl rfl (Qt.index Try.underlying22 Try.cells24 rfl rfl (by omega) (Has.ro hR) (by rw [u64s_len]; omega)) ?_
        refine S.q rfl rfl (Qt.load rfl (Ld.sl (Has.ro hR) Try.one24 (u64s_get (by omega) (Nat.mul_one _)))) ?_
        refine S.q rfl rfl (Qt.move (by conv => lhs; whnf)) ?_
        refine S.dec rfl rfl (Qt.ge rfl rfl) (fun h40 => ?_) (fun h40 => ?_)
        · refine S.nil ?_
          refine S.if_t rfl ?_
          refine TC.seq ?_
          refine TC.region ?_
          refine S.q rfl rfl (Qt.makeInterface Try.underlying42 (fun _ h => nomatch h) (by conv => lhs; whnf)) ?_
          refine S.q rfl rfl (Qt.assign (by conv => lhs; whnf)) ?_
          refine S.nil ?_
          refine TC.ret ?_
          refine finQ.ret (RVs.tmp (by conv => lhs; whnf) RVs.nil) (Sub.nil _) ?_
          have hr : Rising xs := fun i hi => hs i (by omega)
          exact ⟨by rw [asked_last h10 h15 hr h40]; rfl, rfl⟩
        · refine S.nil ?_
          refine S.if_f rfl ?_
          refine TC.skip ?_
          refine TC.seq ?_
          refine TC.region ?_
          refine S.q rfl rfl (Qt.assign (by conv => lhs; whnf)) ?_
          refine S.nil ?_
          refine TC.ret ?_
          refine finQ.ret (RVs.tmp (by conv => lhs; whnf) RVs.nil) (Sub.nil _) ?_
          have hr : Rising xs := fun i hi => hs i (by omega)
          exact ⟨by rw [asked_ok h10 h15 hr h40]; rfl, rfl⟩
theorem modelAsked_T (A : Option Addr) (c : Nat) (xs : List Nat) (n : Nat) (w0 : World) (hR : Ro w0 [] (SlA A (u64s xs))) (hc : xs.length ≤ c) (hm : c ≤ 9223372036854775807) (h : asked xs n = 0) : Calls Try.prog 9 #[.slice A xs.length c, .int .u64 (n : Int)] w0 (Ret w0 .nilIface) :=
  Calls.ret ((modelAsked_walk A c xs n w0 hR hc hm).mono fun e w ⟨v, L, h1, h2, h3, h4⟩ => ⟨v, L, h1, h2, by rw [h3, h]; rfl, h4⟩)
theorem modelAsked_F (A : Option Addr) (c : Nat) (xs : List Nat) (n : Nat) (w0 : World) (hR : Ro w0 [] (SlA A (u64s xs))) (hc : xs.length ≤ c) (hm : c ≤ 9223372036854775807) (h : ¬ asked xs n = 0) : Calls Try.prog 9 #[.slice A xs.length c, .int .u64 (n : Int)] w0 (Ret w0 (.iface 42 (.int .i64 ((asked xs n : Nat) : Int)))) :=
  Calls.ret ((modelAsked_walk A c xs n w0 hR hc hm).mono fun e w ⟨v, L, h1, h2, h3, h4⟩ => ⟨v, L, h1, h2, by rw [h3, errv_pos h], h4⟩)

set_option maxHeartbeats 400000 in
theorem refAsked_walk (A : Option Addr) (c : Nat) (xs : List Nat) (n : Nat) (w0 : World) (hR : Ro w0 [] (SlA A (u64s xs))) (hc : xs.length ≤ c) (hm : c ≤ 9223372036854775807) :
    Calls Try.prog 10 #[.slice A xs.length c, .int .u64 (n : Int)] w0 (Post w0 [] fun v L => v = .int .i64 ((asked xs n : Nat) : Int) ∧ L = []) := by
  refine Calls.of (L := []) (n := 41) (rs := [.tmp 4]) Try.func10 rfl rfl rfl (Nat.le_of_ble_eq_true rfl) (Sat.nil _) ?_
  refine TC.seq ?_
  refine TC.region ?_
  refine S.q rfl rfl (Qt.assign (by conv => lhs; whnf)) ?_
  refine S.nil ?_
  refine TC.seq ?_
  refine TC.seq ?_
  refine TC.region ?_
  refine S.q rfl rfl (Qt.move (by conv => lhs; whnf)) ?_
  refine S.q rfl rfl (Qt.len_slice Try.underlying22 rfl) ?_
  refine S.dec rfl rfl (Qt.gt (b := 256) rfl rfl) (fun h9 => ?_) (fun h9 => ?_)
  · refine S.nil ?_
    refine S.if_t rfl ?_
    refine TC.seq ?_
    refine TC.region ?_
    refine S.q rfl rfl (Qt.assign (by conv => lhs; whnf)) ?_
    refine S.nil ?_
    refine TC.ret ?_
    refine finQ.ret (RVs.tmp (by conv => lhs; whnf) RVs.nil) (Sub.nil _) ?_
    exact ⟨by rw [asked_large h9]; rfl, rfl⟩
  · refine S.nil ?_
    refine S.if_f rfl ?_
    refine TC.skip ?_
    refine TC.seq ?_
    refine TC.seq ?_
    refine TC.region ?_
    refine S.q rfl rfl (Qt.move (by conv => lhs; whnf)) ?_
    refine S.q rfl rfl (Qt.len_slice Try.underlying22 rfl) ?_
    refine S.dec rfl rfl (Qt.eq (b := 0) rfl rfl) (fun h12 => ?_) (fun h12 => ?_)
    · refine S.nil ?_
      refine S.if_t rfl ?_
      refine TC.seq ?_
      refine TC.region ?_
      refine S.q rfl rfl (Qt.assign (by conv => lhs; whnf)) ?_
      refine S.nil ?_
      refine TC.ret ?_
      refine finQ.ret (RVs.tmp (by conv => lhs; whnf) RVs.nil) (Sub.nil _) ?_
      exact ⟨by rw [asked_none h12]; rfl, rfl⟩
    · refine S.nil ?_
      refine S.if_f rfl ?_
      refine TC.skip ?_
      refine TC.seq ?_
      refine TC.seq ?_
      refine TC.region ?_
      refine S.q rfl rfl (Qt.assign (by conv => lhs; whnf)) ?_
      refine S.nil ?_
      refine TC.block ?_
      refine TC.loop (γ := Nat) [13, 14, 15, 16, 19, 20, 21, 22, 23, 24, 25, 26, 27, 28, 4, 17, 18, 5] (fun k => [(5, .int .i64 ((k + 1 : Nat) : Int))]) (fun _ => _) (fun k => k + 1 ≤ xs.length ∧ ∀ i, i < k → xs.getD i 0 < xs.getD (i + 1) 0) (fun k => xs.length - k) (0)
        ⟨by omega, by omega⟩ ⟨Out.refl _ _, (List.forall_mem_cons.2 ⟨rfl, (fun _ h => nomatch h)⟩)⟩ (Sub.refl _) ?_
      rintro k u ⟨hk, hs⟩
      refine TC.seq ?_
      refine TC.seq ?_
      refine TC.region ?_
      refine S.q rfl rfl (Qt.move (by conv => lhs; whnf)) ?_
      refine S.q rfl rfl (Qt.move (by conv => lhs; whnf)) ?_
      refine S.q rfl rfl (Qt.len_slice Try.underlying22 rfl) ?_
      refine S.dec rfl rfl (Qt.lt rfl rfl) (fun h16 => ?_) (fun h16 => ?_)
      · refine S.nil ?_
        refine S.if_t rfl ?_
        refine TC.skip ?_
        refine TC.seq ?_
        refine TC.block ?_
        refine TC.seq ?_
        refine S.draw Try.mixed (Sub.nil []) ?_
        refine D.q rfl (by kernel_rfl) (by kernel_rfl) rfl rfl (Qt.move (by conv => lhs; whnf)) ?_
        refine D.q rfl (by kernel_rfl) (by kernel_rfl) rfl rfl (Qt.move (by conv => lhs; whnf)) ?_
        refine D.q rfl (by kernel_rfl) (by kernel_rfl) rfl rfl (Qt.sub (b := 1) rfl rfl (by omega) (by simp only [kmax]; omega)) ?_
        refine D.q rfl (by kernel_rfl) (by kernel_rfl) rfl rfl (Qt.index Try.underlying22 Try.cells24 rfl rfl (by omega) (Has.ro hR) (by rw [u64s_len]; omega)) ?_
        refine D.q rfl (by kernel_rfl) (by kernel_rfl) rfl rfl (Qt.load rfl (Ld.sl (Has.ro hR) Try.one24 (u64s_get (by omega) (Nat.mul_one _)))) ?_
        refine D.q rfl (by kernel_rfl) (by kernel_rfl) rfl rfl (Qt.move (by conv => lhs; whnf)) ?_
        refine D.q rfl (by kernel_rfl) (by kernel_rfl) rfl rfl (Qt.move (by conv => lhs; whnf)) ?_
        refine D.q rfl (by kernel_rfl) (by kernel_rfl) rfl rfl (Qt.index Try.underlying22 Try.cells24 rfl rfl (by omega) (Has.ro hR) (by rw [u64s_len]; omega)) ?_
        refine D.q rfl (by kernel_rfl) (by kernel_rfl) rfl rfl (Qt.load rfl (Ld.sl (Has.ro hR) Try.one24 (u64s_get (by omega) (Nat.mul_one _)))) ?_
        refine D.dec rfl (by kernel_rfl) (by kernel_rfl) rfl rfl (Qt.ge rfl rfl) (fun h28 => ?_) (fun h28 => ?_)
        · refine D.done (Sub.nil []) rfl ?_
          refine S.if_t rfl ?_
          refine TC.seq ?_
          refine TC.region ?_
          refine S.q rfl rfl (Qt.assign (by conv => lhs; whnf)) ?_
          refine S.nil ?_
          refine TC.ret ?_
          refine finQ.ret (RVs.tmp (by conv => lhs; whnf) RVs.nil) (Sub.nil _) ?_
          exact ⟨by rw [asked_fall h9 (i := k) (by omega) (by simpa using h28)]; rfl, rfl⟩
        · refine D.done (Sub.nil []) rfl ?_
          refine S.if_f rfl ?_
          refine TC.skip ?_
          refine TC.region ?_
          refine S.q rfl rfl (Qt.move (by conv => lhs; whnf)) ?_
          refine S.q rfl rfl (Qt.add (b := 1) rfl rfl (by simp only [kmax]; omega)) ?_
          refine S.q rfl rfl (Qt.assign (by conv => lhs; whnf)) ?_
          refine S.nil ?_
          refine ⟨k + 1, ?_, ?_, ⟨?_, (List.forall_mem_cons.2 ⟨rfl, (fun _ h => nomatch h)⟩)⟩, Sub.refl _⟩
          · refine ⟨by omega, fun i hi => ?_⟩
            rcases Nat.lt_or_ge i k with h | h
            · exact hs i h
            · obtain rfl : i = k := by omega
              simp only [Nat.add_sub_cancel] at h28; omega
          · show _ < _; dsimp only; omega
          repeat (first | exact Out.refl _ _ | refine Out.put rfl ?_ | refine Out.puts rfl ?_ | refine Out.scr ?_ | refine Out.scr' rfl ?_)
      · refine S.nil ?_
        refine S.if_f rfl ?_
        refine TC.exit ?_
        refine TC.seq ?_
        refine TC.seq ?_
        refine TC.region ?_
        refine S.q rfl rfl (Qt.assign (by conv => lhs; whnf)) ?_
        refine S.nil ?_
        refine TC.block ?_
        refine TC.loop (γ := Nat) [29, 30, 31, 32, 35, 36, 37, 38, 39, 40, 4, 33, 34, 6] (fun j => [(6, .int .i64 (j : Int))]) (fun _ => _) (fun j => j ≤ xs.length ∧ ∀ i, i < j → xs.getD i 0 < n) (fun j => xs.length - j) (0)
          ⟨by omega, by omega⟩ ⟨Out.refl _ _, (List.forall_mem_cons.2 ⟨rfl, (fun _ h => nomatch h)⟩)⟩ (Sub.refl _) ?_
        rintro j u ⟨hj, hn⟩
        refine TC.seq ?_
        refine TC.seq ?_
        refine TC.region ?_
        refine S.q rfl rfl (Qt.move (by conv => lhs; whnf)) ?_
        refine S.q rfl rfl (Qt.move (by conv => lhs; whnf)) ?_
        refine S.q rfl rfl (Qt.len_slice Try.underlying22 rfl) ?_
        refine S.dec rfl rfl (Qt.lt rfl rfl) (fun h32 => ?_) (fun h32 => ?_)
        · refine S.nil ?_
          refine S.if_t rfl ?_
          refine TC.skip ?_
          refine TC.seq ?_
          refine TC.block ?_
          refine TC.seq ?_
          refine TC.region ?_
          refine S.q rfl rfl (Qt.move (by conv => lhs; whnf)) ?_
          refine S.q rfl rfl (Qt.move (by conv => lhs; whnf)) ?_
          refine S.q rfl rfl (Qt.index Try.underlying22 Try.cells24 rfl rfl (by omega) (Has.ro hR) (by rw [u64s_len]; omega)) ?_
          refine S.q rfl rfl (Qt.load rfl (Ld.sl (Has.ro hR) Try.one24 (u64s_get (by omega) (Nat.mul_one _)))) ?_
          refine S.q rfl rfl (Qt.move (by conv => lhs; whnf)) ?_
          refine S.dec rfl rfl (Qt.ge rfl rfl) (fun h40 => ?_) (fun h40 => ?_)
          · refine S.nil ?_
            refine S.if_t rfl ?_
            refine TC.seq ?_
            refine TC.region ?_
            refine S.q rfl rfl (Qt.assign (by conv => lhs; whnf)) ?_
            refine S.nil ?_
            refine TC.ret ?_
            refine finQ.ret (RVs.tmp (by conv => lhs; whnf) RVs.nil) (Sub.nil _) ?_
            have hr : Rising xs := fun i hi => hs i (by omega)
            exact ⟨by rw [asked_last h9 h12 hr (Nat.le_trans h40 (rising_le hr _ _ (by omega) (by omega)))]; rfl, rfl⟩
          · refine S.nil ?_
            refine S.if_f rfl ?_
            refine TC.skip ?_
            refine TC.region ?_
            refine S.q rfl rfl (Qt.move (by conv => lhs; whnf)) ?_
            refine S.q rfl rfl (Qt.add (b := 1) rfl rfl (by simp only [kmax]; omega)) ?_
            refine S.q rfl rfl (Qt.assign (by conv => lhs; whnf)) ?_
            refine S.nil ?_
            refine ⟨j + 1, ?_, ?_, ⟨?_, (List.forall_mem_cons.2 ⟨rfl, (fun _ h => nomatch h)⟩)⟩, Sub.refl _⟩
            · refine ⟨by omega, fun i hi => ?_⟩
              rcases Nat.lt_or_ge i j with h | h
              · exact hn i h
              · obtain rfl : i = j := by omega
                omega
            · show _ < _; dsimp only; omega
            repeat (first | exact Out.refl _ _ | refine Out.put rfl ?_ | refine Out.puts rfl ?_ | refine Out.scr ?_ | refine Out.scr' rfl ?_)
        · refine S.nil ?_
          refine S.if_f rfl ?_
          refine TC.exit ?_
          refine TC.seq ?_
          refine TC.region ?_
          refine S.q rfl rfl (Qt.assign (by conv => lhs; whnf)) ?_
          refine S.nil ?_
          refine TC.ret ?_
          refine finQ.ret (RVs.tmp (by conv => lhs; whnf) RVs.nil) (Sub.nil _) ?_
          have hr : Rising xs := fun i hi => hs i (by omega)
          exact ⟨by rw [asked_ok h9 h12 hr (by have := hn (xs.length - 1) (by omega); omega)]; rfl, rfl⟩
set_option maxHeartbeats 400000 in
theorem spanned_walk (first n : Nat) (many : Int) (w0 : World) (hf : n ≤ 18446744073709551615) (hm : many ≤ 9223372036854775807) :
    Calls Try.prog 11 #[.int .u64 (first : Int), .int .i64 many, .int .u64 (n : Int)] w0 (Post w0 [] fun v L => v = errv 42 (spanned first many n) ∧ L = []) := by
  refine Calls.of (L := []) (n := 28) (rs := [.tmp 6]) Try.func11 rfl rfl rfl (Nat.le_of_ble_eq_true rfl) (Sat.nil _) ?_
  refine TC.seq ?_
  refine TC.region ?_
  refine S.q rfl rfl (Qt.assign (by conv => lhs; whnf)) ?_
  refine S.nil ?_
  refine TC.seq ?_
  refine TC.block ?_
  refine TC.seq ?_
  refine TC.region ?_
  refine S.q rfl rfl (Qt.move (by conv => lhs; whnf)) ?_
  refine S.dec rfl rfl (Qt.gti rfl rfl) (fun h9 => ?_) (fun h9 => ?_)
  · refine S.q rfl rfl (Qt.assign (by conv => lhs; whnf)) ?_
    refine S.nil ?_
    refine S.if_t rfl ?_
    refine TC.seq ?_
    refine TC.region ?_
    refine S.q rfl rfl (Qt.makeInterface Try.underlying42 (fun _ h => nomatch h) (by conv => lhs; whnf)) ?_
    refine S.q rfl rfl (Qt.assign (by conv => lhs; whnf)) ?_
    refine S.nil ?_
    refine TC.ret ?_
    refine finQ.ret (RVs.tmp (by conv => lhs; whnf) RVs.nil) (Sub.nil _) ?_
    exact ⟨by unfold spanned; simp [*, errv, pack] <;> omega, rfl⟩
  · refine S.q rfl rfl (Qt.assign (by conv => lhs; whnf)) ?_
    refine S.nil ?_
    refine S.if_f rfl ?_
    refine TC.seq ?_
    refine TC.region ?_
    refine S.q rfl rfl (Qt.move (by conv => lhs; whnf)) ?_
    refine S.dec rfl rfl (Qt.lti rfl rfl) (fun h13 => ?_) (fun h13 => ?_)
    · refine S.q rfl rfl (Qt.assign (by conv => lhs; whnf)) ?_
      refine S.nil ?_
      refine S.if_t rfl ?_
      refine TC.seq ?_
      refine TC.region ?_
      refine S.q rfl rfl (Qt.makeInterface Try.underlying42 (fun _ h => nomatch h) (by conv => lhs; whnf)) ?_
      refine S.q rfl rfl (Qt.assign (by conv => lhs; whnf)) ?_
      refine S.nil ?_
      refine TC.ret ?_
      refine finQ.ret (RVs.tmp (by conv => lhs; whnf) RVs.nil) (Sub.nil _) ?_
      exact ⟨by unfold spanned; simp [*, errv, pack] <;> omega, rfl⟩
    · refine S.q rfl rfl (Qt.assign (by conv => lhs; whnf)) ?_
      refine S.nil ?_
      refine S.if_f rfl ?_
      refine TC.seq ?_
      refine TC.region ?_
      refine S.q rfl rfl (Qt.move (by conv => lhs; whnf)) ?_
      refine S.q rfl rfl (Qt.move (by conv => lhs; whnf)) ?_
      refine S.dec rfl rfl (Qt.ge rfl rfl) (fun h18 => ?_) (fun h18 => ?_)
      · refine S.q rfl rfl (Qt.move (by conv => lhs; whnf)) ?_
        refine S.pass rfl rfl ?_
        refine S.pass rfl rfl ?_
        refine S.pass rfl rfl ?_
        refine S.pass rfl rfl ?_
        refine S.pass rfl rfl ?_
        refine S.pass rfl rfl ?_
        refine S.q rfl rfl (Qt.pick_t rfl (by conv => lhs; whnf)) ?_
        refine S.q rfl rfl (Qt.assign (by conv => lhs; whnf)) ?_
        refine S.nil ?_
        refine S.if_t rfl ?_
        refine TC.seq ?_
        refine TC.region ?_
        refine S.q rfl rfl (Qt.makeInterface Try.underlying42 (fun _ h => nomatch h) (by conv => lhs; whnf)) ?_
        refine S.q rfl rfl (Qt.assign (by conv => lhs; whnf)) ?_
        refine S.nil ?_
        refine TC.ret ?_
        refine finQ.ret (RVs.tmp (by conv => lhs; whnf) RVs.nil) (Sub.nil _) ?_
        exact ⟨by unfold spanned; simp [*, errv, pack] <;> omega, rfl⟩
      · refine S.q rfl rfl (Qt.move (by conv => lhs; whnf)) ?_
        refine S.qg rfl rfl rfl (Qt.move (by conv => lhs; whnf)) ?_
        refine S.qg rfl rfl rfl (Qt.convertz Try.underlying3 Try.underlying24 rfl (by omega) (by simp only [kmax]; omega)) ?_
        refine S.qg rfl rfl rfl (Qt.move (by conv => lhs; whnf)) ?_
        refine S.qg rfl rfl rfl (Qt.move (by conv => lhs; whnf)) ?_
        refine S.qg rfl rfl rfl (Qt.sub rfl rfl (by omega) (by simp only [kmax]; omega)) ?_
        refine S.decg rfl rfl rfl (Qt.gt rfl rfl) (fun h25 => ?_) (fun h25 => ?_)
        · refine S.q rfl rfl (Qt.pick_f rfl (by conv => lhs; whnf)) ?_
          refine S.q rfl rfl (Qt.assign (by conv => lhs; whnf)) ?_
          refine S.nil ?_
          refine S.if_t rfl ?_
          refine TC.seq ?_
          refine TC.region ?_
          refine S.q rfl rfl (Qt.makeInterface Try.underlying42 (fun _ h => nomatch h) (by conv => lhs; whnf)) ?_
          refine S.q rfl rfl (Qt.assign (by conv => lhs; whnf)) ?_
          refine S.nil ?_
          refine TC.ret ?_
          refine finQ.ret (RVs.tmp (by conv => lhs; whnf) RVs.nil) (Sub.nil _) ?_
          exact ⟨by unfold spanned; simp [*, errv, pack] <;> omega, rfl⟩
        · refine S.q rfl rfl (Qt.pick_f rfl (by conv => lhs; whnf)) ?_
          refine S.q rfl rfl (Qt.assign (by conv => lhs; whnf)) ?_
          refine S.nil ?_
          refine S.if_f rfl ?_
          refine TC.skip ?_
          refine TC.seq ?_
          refine TC.region ?_
          refine S.q rfl rfl (Qt.assign (by conv => lhs; whnf)) ?_
          refine S.nil ?_
          refine TC.ret ?_
          refine finQ.ret (RVs.tmp (by conv => lhs; whnf) RVs.nil) (Sub.nil _) ?_
          exact ⟨by unfold spanned; simp [*, errv, pack] <;> omega, rfl⟩
set_option maxHeartbeats 400000 in
theorem refSpanned_walk (first n : Nat) (many : Int) (w0 : World) (hf : n ≤ 18446744073709551615) (hm : many ≤ 9223372036854775807) :
    Calls Try.prog 12 #[.int .u64 (first : Int), .int .i64 many, .int .u64 (n : Int)] w0 (Post w0 [] fun v L => v = .int .i64 ((spanned first many n : Nat) : Int) ∧ L = []) := by
  refine Calls.of (L := []) (n := 28) (rs := [.tmp 6]) Try.func12 rfl rfl rfl (Nat.le_of_ble_eq_true rfl) (Sat.nil _) ?_
  refine TC.seq ?_
  refine TC.region ?_
  refine S.q rfl rfl (Qt.assign (by conv => lhs; whnf)) ?_
  refine S.nil ?_
  refine TC.seq ?_
  refine TC.seq ?_
  refine TC.region ?_
  refine S.q rfl rfl (Qt.move (by conv => lhs; whnf)) ?_
  refine S.dec rfl rfl (Qt.gti rfl rfl) (fun h9 => ?_) (fun h9 => ?_)
  · refine S.nil ?_
    refine S.if_t rfl ?_
    refine TC.seq ?_
    refine TC.region ?_
    refine S.q rfl rfl (Qt.assign (by conv => lhs; whnf)) ?_
    refine S.nil ?_
    refine TC.ret ?_
    refine finQ.ret (RVs.tmp (by conv => lhs; whnf) RVs.nil) (Sub.nil _) ?_
    exact ⟨by simp [spanned, h9, pack], rfl⟩
  · refine S.nil ?_
    refine S.if_f rfl ?_
    refine TC.skip ?_
    refine TC.seq ?_
    refine TC.seq ?_
    refine TC.region ?_
    refine S.q rfl rfl (Qt.move (by conv => lhs; whnf)) ?_
    refine S.dec rfl rfl (Qt.lei rfl rfl) (fun h11 => ?_) (fun h11 => ?_)
    · refine S.nil ?_
      refine S.if_t rfl ?_
      refine TC.seq ?_
      refine TC.region ?_
      refine S.q rfl rfl (Qt.assign (by conv => lhs; whnf)) ?_
      refine S.nil ?_
      refine TC.ret ?_
      refine finQ.ret (RVs.tmp (by conv => lhs; whnf) RVs.nil) (Sub.nil _) ?_
      exact ⟨by have h : many < 1 := by omega
                simp [spanned, h9, h, pack], rfl⟩
    · refine S.nil ?_
      refine S.if_f rfl ?_
      refine TC.skip ?_
      refine TC.seq ?_
      refine TC.seq ?_
      refine TC.region ?_
      refine S.q rfl rfl (Qt.assign (by conv => lhs; whnf)) ?_
      refine S.nil ?_
      refine TC.block ?_
      refine TC.loop (γ := Nat) [12, 13, 14, 17, 18, 19, 20, 21, 22, 23, 24, 25, 26, 27, 6, 15, 16, 7] (fun k => [(7, .int .i64 (k : Int))]) (fun _ => _) (fun k => (k : Int) ≤ many ∧ (∀ i : Nat, i < k → first < n ∧ i < n - first)) (fun k => many.toNat - k) (0)
        ⟨by omega, by omega⟩ ⟨Out.refl _ _, (List.forall_mem_cons.2 ⟨rfl, (fun _ h => nomatch h)⟩)⟩ (Sub.refl _) ?_
      rintro k u ⟨hk, hs⟩
      refine TC.seq ?_
      refine TC.seq ?_
      refine TC.region ?_
      refine S.q rfl rfl (Qt.move (by conv => lhs; whnf)) ?_
      refine S.q rfl rfl (Qt.move (by conv => lhs; whnf)) ?_
      refine S.dec rfl rfl (Qt.lti rfl rfl) (fun h14 => ?_) (fun h14 => ?_)
      · refine S.nil ?_
        refine S.if_t rfl ?_
        refine TC.skip ?_
        refine TC.seq ?_
        refine TC.block ?_
        refine TC.seq ?_
        refine TC.region ?_
        refine S.q rfl rfl (Qt.move (by conv => lhs; whnf)) ?_
        refine S.q rfl rfl (Qt.move (by conv => lhs; whnf)) ?_
        refine S.dec rfl rfl (Qt.ge rfl rfl) (fun h19 => ?_) (fun h19 => ?_)
        · refine S.q rfl rfl (Qt.move (by conv => lhs; whnf)) ?_
          refine S.pass rfl rfl ?_
          refine S.pass rfl rfl ?_
          refine S.pass rfl rfl ?_
          refine S.pass rfl rfl ?_
          refine S.pass rfl rfl ?_
          refine S.pass rfl rfl ?_
          refine S.q rfl rfl (Qt.pick_t rfl (by conv => lhs; whnf)) ?_
          refine S.nil ?_
          refine S.if_t rfl ?_
          refine TC.seq ?_
          refine TC.region ?_
          refine S.q rfl rfl (Qt.assign (by conv => lhs; whnf)) ?_
          refine S.nil ?_
          refine TC.ret ?_
          refine finQ.ret (RVs.tmp (by conv => lhs; whnf) RVs.nil) (Sub.nil _) ?_
          exact ⟨by rw [spanned_1 h9 (by omega) (.inl h19)]; rfl, rfl⟩
        · refine S.q rfl rfl (Qt.move (by conv => lhs; whnf)) ?_
          refine S.qg rfl rfl rfl (Qt.move (by conv => lhs; whnf)) ?_
          refine S.qg rfl rfl rfl (Qt.convert Try.underlying3 Try.underlying24 rfl (by simp only [kmax]; omega)) ?_
          refine S.qg rfl rfl rfl (Qt.move (by conv => lhs; whnf)) ?_
          refine S.qg rfl rfl rfl (Qt.move (by conv => lhs; whnf)) ?_
          refine S.qg rfl rfl rfl (Qt.sub rfl rfl (by omega) (by simp only [kmax]; omega)) ?_
          refine S.decg rfl rfl rfl (Qt.ge rfl rfl) (fun h26 => ?_) (fun h26 => ?_)
          · refine S.q rfl rfl (Qt.pick_f rfl (by conv => lhs; whnf)) ?_
            refine S.nil ?_
            refine S.if_t rfl ?_
            refine TC.seq ?_
            refine TC.region ?_
            refine S.q rfl rfl (Qt.assign (by conv => lhs; whnf)) ?_
            refine S.nil ?_
            refine TC.ret ?_
            refine finQ.ret (RVs.tmp (by conv => lhs; whnf) RVs.nil) (Sub.nil _) ?_
            exact ⟨by rw [spanned_1 h9 (by omega) (.inr (by omega))]; rfl, rfl⟩
          · refine S.q rfl rfl (Qt.pick_f rfl (by conv => lhs; whnf)) ?_
            refine S.nil ?_
            refine S.if_f rfl ?_
            refine TC.skip ?_
            refine TC.region ?_
            refine S.q rfl rfl (Qt.move (by conv => lhs; whnf)) ?_
            refine S.q rfl rfl (Qt.add (b := 1) rfl rfl (by simp only [kmax]; omega)) ?_
            refine S.q rfl rfl (Qt.assign (by conv => lhs; whnf)) ?_
            refine S.nil ?_
            refine ⟨k + 1, ?_, ?_, ⟨?_, (List.forall_mem_cons.2 ⟨rfl, (fun _ h => nomatch h)⟩)⟩, Sub.refl _⟩
            · refine ⟨by omega, fun i hi => ?_⟩
              rcases Nat.lt_or_ge i k with h | h
              · exact hs i h
              · omega
            · show _ < _; dsimp only; omega
            repeat (first | exact Out.refl _ _ | refine Out.put rfl ?_ | refine Out.puts rfl ?_ | refine Out.scr ?_ | refine Out.scr' rfl ?_)
      · refine S.nil ?_
        refine S.if_f rfl ?_
        refine TC.exit ?_
        refine TC.seq ?_
        refine TC.region ?_
        refine S.q rfl rfl (Qt.assign (by conv => lhs; whnf)) ?_
        refine S.nil ?_
        refine TC.ret ?_
        refine finQ.ret (RVs.tmp (by conv => lhs; whnf) RVs.nil) (Sub.nil _) ?_
        have h0 : 0 < many.toNat := by omega
        have h1 := hs (many.toNat - 1) (by omega)
        exact ⟨by rw [spanned_0 h9 (by omega) (by omega) (by omega)]; rfl, rfl⟩
set_option maxHeartbeats 400000 in
theorem num_nil_walk (w0 : World) :
    Calls Try.prog 8 #[.nilIface] w0 (Post w0 [] fun v L => v = .int .i64 0 ∧ L = []) := by
  refine Calls.of (L := []) (n := 18) (rs := [.tmp 2]) Try.func8 rfl rfl rfl (Nat.le_of_ble_eq_true rfl) (Sat.nil _) ?_
  refine TC.seq ?_
  refine TC.region ?_
  refine S.q rfl rfl (Qt.assign (by conv => lhs; whnf)) ?_
  refine S.nil ?_
  refine TC.seq ?_
  refine TC.seq ?_
  refine TC.region ?_
  refine S.q rfl rfl (Qt.move (by conv => lhs; whnf)) ?_
  refine S.q rfl rfl (Qt.eqnil_nil Try.underlying30 rfl) ?_
  refine S.nil ?_
  refine S.if_t rfl ?_
  refine TC.seq ?_
  refine TC.region ?_
  refine S.q rfl rfl (Qt.assign (by conv => lhs; whnf)) ?_
  refine S.nil ?_
  refine TC.ret ?_
  refine finQ.ret (RVs.tmp (by conv => lhs; whnf) RVs.nil) (Sub.nil _) ?_
  exact ⟨rfl, rfl⟩
set_option maxHeartbeats 400000 in
theorem num_pos_walk (k : Nat) (hk : 0 < k) (w0 : World) :
    Calls Try.prog 8 #[.iface 42 (.int .i64 (k : Int))] w0 (Post w0 [] fun v L => v = .int .i64 (k : Int) ∧ L = []) := by
  refine Calls.of (L := []) (n := 18) (rs := [.tmp 2]) Try.func8 rfl rfl rfl (Nat.le_of_ble_eq_true rfl) (Sat.nil _) ?_
  refine TC.seq ?_
  refine TC.region ?_
  refine S.q rfl rfl (Qt.assign (by conv => lhs; whnf)) ?_
  refine S.nil ?_
  refine TC.seq ?_
  refine TC.seq ?_
  refine TC.region ?_
  refine S.q rfl rfl (Qt.move (by conv => lhs; whnf)) ?_
  refine S.q rfl rfl (Qt.eqnil_iface Try.underlying30 rfl) ?_
  refine S.nil ?_
  refine S.if_f rfl ?_
  refine TC.skip ?_
  refine TC.seq ?_
  refine TC.seq ?_
  refine TC.region ?_
  refine S.q rfl rfl (Qt.move (by conv => lhs; whnf)) ?_
  refine S.q rfl rfl (Qt.assert_yes Try.underlying42 (fun _ h => nomatch h) rfl) ?_
  refine S.q rfl rfl (Qt.move (by conv => lhs; whnf)) ?_
  refine S.q rfl rfl (Qt.extract rfl rfl) ?_
  refine S.q rfl rfl (Qt.extract rfl rfl) ?_
  refine S.q rfl rfl (Qt.assign (by conv => lhs; whnf)) ?_
  refine S.q rfl rfl (Qt.assign (by conv => lhs; whnf)) ?_
  refine S.nil ?_
  refine TC.seq ?_
  refine TC.region ?_
  refine S.q rfl rfl (Qt.move (by conv => lhs; whnf)) ?_
  refine S.q rfl rfl (Qt.move (by conv => lhs; whnf)) ?_
  refine S.qg rfl rfl rfl (Qt.move (by conv => lhs; whnf)) ?_
  refine S.qg rfl rfl rfl (Qt.dT (Qt.ne (b := 0) rfl rfl) (by omega)) ?_
  refine S.q rfl rfl (Qt.pick_t rfl (by conv => lhs; whnf)) ?_
  refine S.nil ?_
  refine S.if_t rfl ?_
  refine TC.seq ?_
  refine TC.region ?_
  refine S.q rfl rfl (Qt.move (by conv => lhs; whnf)) ?_
  refine S.q rfl rfl (Qt.assign (by conv => lhs; whnf)) ?_
  refine S.nil ?_
  refine TC.ret ?_
  refine finQ.ret (RVs.tmp (by conv => lhs; whnf) RVs.nil) (Sub.nil _) ?_
  exact ⟨rfl, rfl⟩
theorem num_errv (k : Nat) (w : World) : Calls Try.prog 8 #[errv 42 k] w (Ret w (.int .i64 (k : Int))) := by
  rcases Nat.eq_zero_or_pos k with rfl | h
  · exact Calls.ret (num_nil_walk w)
  · rw [errv_pos (by omega)]
    exact Calls.ret (num_pos_walk k h w)

set_option maxHeartbeats 400000 in
theorem new_ok_walk (n : Nat) (h : 1 ≤ n ∧ n ≤ 4294967296) (w0 : World) :
    Calls Try.prog 14 #[.int .u64 (n : Int)] w0 (Post w0 [] fun v L => ∃ b bm, v = .tuple #[.pointer (some ⟨b, 0, none⟩), .nilIface] ∧ L = [Blk b 73 [.int .u64 (n : Int), .map (some bm)], MapA bm encU hv ([] : Ms)]) := by
  refine Calls.of (L := []) (n := 12) (rs := [.tmp 2, .tmp 3]) Try.func14 rfl rfl rfl (Nat.le_of_ble_eq_true rfl) (Sat.nil _) ?_
  refine TC.seq ?_
  refine TC.region ?_
  refine S.q rfl rfl (Qt.assign (by conv => lhs; whnf)) ?_
  refine S.q rfl rfl (Qt.assign (by conv => lhs; whnf)) ?_
  refine S.nil ?_
  refine TC.seq ?_
  refine TC.seq ?_
  refine TC.region ?_
  refine S.q rfl rfl (Qt.move (by conv => lhs; whnf)) ?_
  refine S.opS rfl rfl (OpV.con0 Try.ent29 rfl (fun w hw => sized_T n w h) ?_)
  refine S.q rfl rfl (Qt.not_t rfl) ?_
  refine S.nil ?_
  refine S.if_f rfl ?_
  refine TC.skip ?_
  refine TC.seq ?_
  refine TC.region ?_
  refine S.q rfl rfl (Qt.move (by conv => lhs; whnf)) ?_
  refine S.opS rfl rfl (OpV.makeMap (enc := encU) (encv := hv) (fun bm => ?_))
  refine S.q rfl rfl (Qt.build (v := .agg #[.int .u64 (n : Int), .map (some bm)]) rfl (fun _ => by kernel_rfl)) ?_
  refine S.opS rfl rfl (OpV.box (by conv => lhs; whnf) (fun b11 => ?_))
  refine S.q rfl rfl (Qt.assign (by conv => lhs; whnf)) ?_
  refine S.q rfl rfl (Qt.assign (by conv => lhs; whnf)) ?_
  refine S.nil ?_
  refine TC.ret ?_
  refine finQ.ret (RVs.tmp (by conv => lhs; whnf) (RVs.tmp (by conv => lhs; whnf) RVs.nil)) (Sub.refl _) ?_
  exact ⟨_, _, rfl, rfl⟩
set_option maxHeartbeats 400000 in
theorem len_walk (b bm n : Nat) (ms : Ms) (w0 : World) (hV : Ro w0 [] (Blk b 73 [.int .u64 (n : Int), .map (some bm)])) (hM : Ro w0 [] (MapA bm encU hv ms)) :
    Calls Try.prog 28 #[.pointer (some ⟨b, 0, none⟩)] w0 (Post w0 [] fun v L => v = .int .i64 ((ms.length : Nat) : Int) ∧ L = []) := by
  refine Calls.of (L := []) (n := 10) (rs := [.tmp 2]) Try.func28 rfl rfl rfl (Nat.le_of_ble_eq_true rfl) (Sat.nil _) ?_
  refine TC.seq ?_
  refine TC.region ?_
  refine S.q rfl rfl (Qt.assign (by conv => lhs; whnf)) ?_
  refine S.nil ?_
  refine TC.seq ?_
  refine TC.seq ?_
  refine TC.region ?_
  refine S.q rfl rfl (Qt.move (by conv => lhs; whnf)) ?_
  refine S.q rfl rfl (Qt.eqp_some Try.underlying38 rfl) ?_
  refine S.nil ?_
  refine S.if_f rfl ?_
  refine TC.skip ?_
  refine TC.seq ?_
  refine TC.region ?_
  refine S.q rfl rfl (Qt.move (by conv => lhs; whnf)) ?_
  refine S.q rfl rfl (Qt.nilCheck rfl) ?_
  refine S.q rfl rfl (Qt.field Try.underlying73 rfl Try.cells71 rfl) ?_
  refine S.q rfl rfl (Qt.load rfl (Ld.one (Has.ro hV) Try.one71 rfl)) ?_
  refine S.q rfl rfl (Qt.len_map Try.underlying71 rfl (Has.ro hM)) ?_
  refine S.q rfl rfl (Qt.assign (by conv => lhs; whnf)) ?_
  refine S.nil ?_
  refine TC.ret ?_
  refine finQ.ret (RVs.tmp (by conv => lhs; whnf) RVs.nil) (Sub.nil _) ?_
  exact ⟨rfl, rfl⟩
set_option maxHeartbeats 400000 in
theorem write_walk (b bm n : Nat) (ms : Ms) (A B : Option Addr) (c d : Nat) (xs : List Nat) (bs : List H32) (w0 : World) (hL : Sat w0 [MapA bm encU hv ms]) (hV : Ro w0 [bm] (Blk b 73 [.int .u64 (n : Int), .map (some bm)])) (hR : Ro w0 [bm] (SlA A (u64s xs))) (hB : Ro w0 [bm] (SlA B (hcs bs))) (hc : xs.length ≤ c) (hm : c ≤ 9223372036854775807) :
    Calls Try.prog 23 #[.pointer (some ⟨b, 0, none⟩), .slice A xs.length c, .slice B bs.length d] w0 (Post w0 [bm] fun v L => v = errv 42 (writeM n ms xs bs).1 ∧ L = [MapA bm encU hv (writeM n ms xs bs).2]) := by
  refine Calls.of (L := [MapA bm encU hv ms]) (n := 49) (rs := [.tmp 6]) Try.func23 rfl rfl rfl (Nat.le_of_ble_eq_true rfl) (hL) ?_
  refine TC.seq ?_
  refine TC.region ?_
  refine S.q rfl rfl (Qt.assign (by conv => lhs; whnf)) ?_
  refine S.nil ?_
  refine TC.seq ?_
  refine TC.region ?_
  refine S.q rfl rfl (Qt.move (by conv => lhs; whnf)) ?_
  refine S.opS rfl rfl (OpV.con0 Try.ent37 rfl (fun w hw => of_R b bm n w (Rd.ro hV w hw)) ?_)
  refine S.q rfl rfl (Qt.move (by conv => lhs; whnf)) ?_
  refine S.q rfl rfl (Qt.extract rfl rfl) ?_
  refine S.q rfl rfl (Qt.extract rfl rfl) ?_
  refine S.q rfl rfl (Qt.assign (by conv => lhs; whnf)) ?_
  refine S.q rfl rfl (Qt.assign (by conv => lhs; whnf)) ?_
  refine S.nil ?_
  refine TC.seq ?_
  refine TC.seq ?_
  refine TC.region ?_
  refine S.q rfl rfl (Qt.move (by conv => lhs; whnf)) ?_
  refine S.q rfl rfl (Qt.nenil_nil Try.underlying30 rfl) ?_
  refine S.nil ?_
  refine S.if_f rfl ?_
  refine TC.skip ?_
  refine TC.seq ?_
  refine TC.seq ?_
  refine TC.region ?_
  refine S.q rfl rfl (Qt.move (by conv => lhs; whnf)) ?_
  refine S.q rfl rfl (Qt.move (by conv => lhs; whnf)) ?_
  by_cases ha : asked xs n = 0
  · refine S.opS rfl rfl (OpV.con0 Try.ent9 rfl (fun w hw => modelAsked_T A c xs n w (Rd.ro hR w hw) hc hm ha) ?_)
    refine S.q rfl rfl (Qt.assign (by conv => lhs; whnf)) ?_
    refine S.nil ?_
    refine TC.seq ?_
    refine TC.region ?_
    refine S.q rfl rfl (Qt.move (by conv => lhs; whnf)) ?_
    refine S.q rfl rfl (Qt.nenil_nil Try.underlying30 rfl) ?_
    refine S.nil ?_
    refine S.if_f rfl ?_
    refine TC.skip ?_
    refine TC.seq ?_
    refine TC.seq ?_
    refine TC.region ?_
    refine S.q rfl rfl (Qt.move (by conv => lhs; whnf)) ?_
    refine S.q rfl rfl (Qt.len_slice Try.underlying22 rfl) ?_
    refine S.q rfl rfl (Qt.move (by conv => lhs; whnf)) ?_
    refine S.q rfl rfl (Qt.len_slice Try.underlying23 rfl) ?_
    refine S.dec rfl rfl (Qt.ne rfl rfl) (fun h30 => ?_) (fun h30 => ?_)
    · refine S.nil ?_
      refine S.if_t rfl ?_
      refine TC.seq ?_
      refine TC.region ?_
      refine S.q rfl rfl (Qt.makeInterface Try.underlying42 (fun _ h => nomatch h) (by conv => lhs; whnf)) ?_
      refine S.q rfl rfl (Qt.assign (by conv => lhs; whnf)) ?_
      refine S.nil ?_
      refine TC.ret ?_
      refine finQ.ret (RVs.tmp (by conv => lhs; whnf) RVs.nil) (Sub.refl _) ?_
      rw [writeM_form ha h30]
      exact ⟨rfl, rfl⟩
    · refine S.nil ?_
      refine S.if_f rfl ?_
      refine TC.skip ?_
      refine TC.seq ?_
      refine TC.seq ?_
      refine TC.region ?_
      refine S.q rfl rfl (Qt.move (by conv => lhs; whnf)) ?_
      refine S.q rfl rfl (Qt.len_slice Try.underlying22 rfl) ?_
      refine S.q rfl rfl (Qt.move (by conv => lhs; whnf)) ?_
      refine S.nil ?_
      refine TC.block ?_
      refine TC.loop (γ := Nat) [35, 36, 37, 38, 10, 11, 39, 40, 41, 42, 43, 44, 45, 46, 47, 48, 34] (fun k => [(34, .int .i64 (k : Int))]) (fun k => [MapA bm encU hv (lay ms (xs.take k) (bs.take k))]) (fun k => k ≤ xs.length) (fun k => xs.length - k) (0)
        (by omega) ⟨Out.refl _ _, (List.forall_mem_cons.2 ⟨rfl, (fun _ h => nomatch h)⟩)⟩ ((by simp [lay]; exact Sub.refl _)) ?_
      rintro k u hk
      refine TC.seq ?_
      refine TC.region ?_
      refine S.dec rfl rfl (Qt.lt rfl rfl) (fun h35 => ?_) (fun h35 => ?_)
      · refine S.nil ?_
        refine TC.seq ?_
        refine S.if_t rfl ?_
        refine TC.skip ?_
        refine TC.seq ?_
        refine TC.block ?_
        refine TC.seq ?_
        refine TC.region ?_
        refine S.q rfl rfl (Qt.move (by conv => lhs; whnf)) ?_
        refine S.q rfl rfl (Qt.index Try.underlying22 Try.cells24 rfl rfl (by omega) (Has.ro hR) (by rw [u64s_len]; omega)) ?_
        refine S.q rfl rfl (Qt.load rfl (Ld.sl (Has.ro hR) Try.one24 (u64s_get (by omega) (Nat.mul_one _)))) ?_
        refine S.q rfl rfl (Qt.assign (by conv => lhs; whnf)) ?_
        refine S.q rfl rfl (Qt.assign (by conv => lhs; whnf)) ?_
        refine S.nil ?_
        refine S.draw Try.mixed (Sub.drop _ (Sub.nil [])) ?_
        refine D.q rfl (by kernel_rfl) (by kernel_rfl) rfl rfl (Qt.move (by conv => lhs; whnf)) ?_
        refine D.q rfl (by kernel_rfl) (by kernel_rfl) rfl rfl (Qt.nilCheck rfl) ?_
        refine D.q rfl (by kernel_rfl) (by kernel_rfl) rfl rfl (Qt.field Try.underlying73 rfl Try.cells71 rfl) ?_
        refine D.q rfl (by kernel_rfl) (by kernel_rfl) rfl rfl (Qt.load rfl (Ld.one (Has.ro hV) Try.one71 rfl)) ?_
        refine D.q rfl (by kernel_rfl) (by kernel_rfl) rfl rfl (Qt.move (by conv => lhs; whnf)) ?_
        refine D.q rfl (by kernel_rfl) (by kernel_rfl) rfl rfl (Qt.move (by conv => lhs; whnf)) ?_
        refine D.q rfl (by kernel_rfl) (by kernel_rfl) rfl rfl (Qt.move (by conv => lhs; whnf)) ?_
        refine D.q rfl (by kernel_rfl) (by kernel_rfl) rfl rfl (Qt.index Try.underlying23 Try.cells58 rfl rfl (by omega) (Has.ro hB) (by rw [hcs_length]; omega)) ?_
        refine D.q rfl (by kernel_rfl) (by kernel_rfl) rfl rfl (Qt.load rfl (Ld.slr (Has.ro hB) Try.row58 (by rw [hvl_length]; exact Try.cells58) (by rw [hvl_length]; exact Nat.succ_pos _) (hcs_at (by omega) rfl))) ?_
        refine D.opN (Sub.drop _ (Sub.nil [])) rfl (by kernel_rfl) (by kernel_rfl) rfl (OpV.mapUpd0 (a := bs.getD k zeroH) Try.underlying71 Try.keyU rfl rfl rfl ⟨Sub.drop _ (Sub.nil []), ?_⟩)
        refine D.done (Sub.drop _ (Sub.nil [])) rfl ?_
        refine TC.region ?_
        refine S.q rfl rfl (Qt.add (b := 1) rfl rfl (by simp only [kmax]; omega)) ?_
        refine S.q rfl rfl (Qt.move (by conv => lhs; whnf)) ?_
        refine S.nil ?_
        refine ⟨k + 1, ?_, ?_, ⟨?_, (List.forall_mem_cons.2 ⟨rfl, (fun _ h => nomatch h)⟩)⟩, (by dsimp only; rw [lay_take ms xs bs k (by omega) (by omega)]; exact Sub.refl _)⟩
        · show _ ≤ _; omega
        · show _ < _; dsimp only; omega
        repeat (first | exact Out.refl _ _ | refine Out.put rfl ?_ | refine Out.puts rfl ?_ | refine Out.scr ?_ | refine Out.scr' rfl ?_)
      · refine S.nil ?_
        refine TC.seq ?_
        refine S.if_f rfl ?_
        refine TC.exit ?_
        refine TC.seq ?_
        refine TC.region ?_
        refine S.q rfl rfl (Qt.assign (by conv => lhs; whnf)) ?_
        refine S.nil ?_
        refine TC.ret ?_
        refine finQ.ret (RVs.tmp (by conv => lhs; whnf) RVs.nil) (Sub.refl _) ?_
        rw [writeM_ok ha (by omega), lay_all ms xs bs k (by omega) (by omega)]
        exact ⟨rfl, rfl⟩
  · refine S.opS rfl rfl (OpV.con0 Try.ent9 rfl (fun w hw => modelAsked_F A c xs n w (Rd.ro hR w hw) hc hm ha) ?_)
    refine S.q rfl rfl (Qt.assign (by conv => lhs; whnf)) ?_
    refine S.nil ?_
    refine TC.seq ?_
    refine TC.region ?_
    refine S.q rfl rfl (Qt.move (by conv => lhs; whnf)) ?_
    refine S.q rfl rfl (Qt.nenil_iface Try.underlying30 rfl) ?_
    refine S.nil ?_
    refine S.if_t rfl ?_
    refine TC.seq ?_
    refine TC.region ?_
    refine S.q rfl rfl (Qt.move (by conv => lhs; whnf)) ?_
    refine S.q rfl rfl (Qt.assign (by conv => lhs; whnf)) ?_
    refine S.nil ?_
    refine TC.ret ?_
    refine finQ.ret (RVs.tmp (by conv => lhs; whnf) RVs.nil) (Sub.refl _) ?_
    rw [writeM_bad ha]
    exact ⟨by rw [errv_pos ha]; rfl, rfl⟩
set_option maxHeartbeats 400000 in
theorem read_walk (b bm n : Nat) (ms : Ms) (A : Option Addr) (c : Nat) (xs : List Nat) (w0 : World) (hV : Ro w0 [] (Blk b 73 [.int .u64 (n : Int), .map (some bm)])) (hM : Ro w0 [] (MapA bm encU hv ms)) (hR : Ro w0 [] (SlA A (u64s xs))) (hc : xs.length ≤ c) (hm : c ≤ 9223372036854775807) (hx : xs.length ≤ 1000000000) :
    Calls Try.prog 24 #[.pointer (some ⟨b, 0, none⟩), .slice A xs.length c] w0 (Post w0 [] fun v L => ∃ O d, v = .tuple #[.slice O (readM n ms xs).2.length d, errv 42 (readM n ms xs).1] ∧ L = [OwnA 58 32 O (readM n ms xs).2.length d (hcs (readM n ms xs).2)]) := by
  refine Calls.of (L := []) (n := 43) (rs := [.tmp 4, .tmp 5]) Try.func24 rfl rfl rfl (Nat.le_of_ble_eq_true rfl) (Sat.nil _) ?_
  refine TC.seq ?_
  refine TC.region ?_
  refine S.q rfl rfl (Qt.assign (by conv => lhs; whnf)) ?_
  refine S.q rfl rfl (Qt.assign (by conv => lhs; whnf)) ?_
  refine S.nil ?_
  refine TC.seq ?_
  refine TC.region ?_
  refine S.q rfl rfl (Qt.move (by conv => lhs; whnf)) ?_
  refine S.opS rfl rfl (OpV.con0 Try.ent37 rfl (fun w hw => of_R b bm n w (Rd.ro hV w hw)) ?_)
  refine S.q rfl rfl (Qt.move (by conv => lhs; whnf)) ?_
  refine S.q rfl rfl (Qt.extract rfl rfl) ?_
  refine S.q rfl rfl (Qt.extract rfl rfl) ?_
  refine S.q rfl rfl (Qt.assign (by conv => lhs; whnf)) ?_
  refine S.q rfl rfl (Qt.assign (by conv => lhs; whnf)) ?_
  refine S.nil ?_
  refine TC.seq ?_
  refine TC.seq ?_
  refine TC.region ?_
  refine S.q rfl rfl (Qt.move (by conv => lhs; whnf)) ?_
  refine S.q rfl rfl (Qt.nenil_nil Try.underlying30 rfl) ?_
  refine S.nil ?_
  refine S.if_f rfl ?_
  refine TC.skip ?_
  refine TC.seq ?_
  refine TC.seq ?_
  refine TC.region ?_
  refine S.q rfl rfl (Qt.move (by conv => lhs; whnf)) ?_
  refine S.q rfl rfl (Qt.move (by conv => lhs; whnf)) ?_
  by_cases ha : asked xs n = 0
  · refine S.opS rfl rfl (OpV.con0 Try.ent9 rfl (fun w hw => modelAsked_T A c xs n w (Rd.ro hR w hw) hc hm ha) ?_)
    refine S.q rfl rfl (Qt.assign (by conv => lhs; whnf)) ?_
    refine S.nil ?_
    refine TC.seq ?_
    refine TC.region ?_
    refine S.q rfl rfl (Qt.move (by conv => lhs; whnf)) ?_
    refine S.q rfl rfl (Qt.nenil_nil Try.underlying30 rfl) ?_
    refine S.nil ?_
    refine S.if_f rfl ?_
    refine TC.skip ?_
    refine TC.seq ?_
    refine TC.region ?_
    refine S.q rfl rfl (Qt.assign (by conv => lhs; whnf)) ?_
    refine S.nil ?_
    refine TC.seq ?_
    refine TC.seq ?_
    refine TC.region ?_
    refine S.q rfl rfl (Qt.move (by conv => lhs; whnf)) ?_
    refine S.q rfl rfl (Qt.len_slice Try.underlying22 rfl) ?_
    refine S.q rfl rfl (Qt.move (by conv => lhs; whnf)) ?_
    refine S.nil ?_
    refine TC.block ?_
    refine TC.ownNil 58 32 ?_
    refine TC.loop (γ := Nat × Option Addr × Nat) [29, 30, 31, 11, 32, 33, 34, 35, 36, 37, 38, 39, 40, 9, 41, 28] (fun g => [(28, .int .i64 ((g.1 : Nat) : Int)), (9, .slice g.2.1 g.1 g.2.2)]) (fun g => [OwnA 58 32 g.2.1 g.1 g.2.2 (hcs ((xs.take g.1).map (getM ms)))]) (fun g => g.1 ≤ xs.length) (fun g => xs.length - g.1) ((0, none, 0))
      (Nat.zero_le _) ⟨Out.refl _ _, (List.forall_mem_cons.2 ⟨rfl, (List.forall_mem_cons.2 ⟨rfl, (fun _ h => nomatch h)⟩)⟩)⟩ (Sub.refl _) ?_
    rintro ⟨k, O, d⟩ u hk
    dsimp only at hk
    refine TC.seq ?_
    refine TC.region ?_
    refine S.dec rfl rfl (Qt.lt rfl rfl) (fun h29 => ?_) (fun h29 => ?_)
    · refine S.nil ?_
      refine TC.seq ?_
      refine S.if_t rfl ?_
      refine TC.skip ?_
      refine TC.seq ?_
      refine TC.block ?_
      refine TC.seq ?_
      refine TC.region ?_
      refine S.q rfl rfl (Qt.index Try.underlying22 Try.cells24 rfl rfl (by omega) (Has.ro hR) (by rw [u64s_len]; omega)) ?_
      refine S.q rfl rfl (Qt.load rfl (Ld.sl (Has.ro hR) Try.one24 (u64s_get (by omega) (Nat.mul_one _)))) ?_
      refine S.q rfl rfl (Qt.assign (by conv => lhs; whnf)) ?_
      refine S.nil ?_
      refine TC.region ?_
      refine S.q rfl rfl (Qt.move (by conv => lhs; whnf)) ?_
      refine S.q rfl rfl (Qt.move (by conv => lhs; whnf)) ?_
      refine S.q rfl rfl (Qt.nilCheck rfl) ?_
      refine S.q rfl rfl (Qt.field Try.underlying73 rfl Try.cells71 rfl) ?_
      refine S.q rfl rfl (Qt.load rfl (Ld.one (Has.ro hV) Try.one71 rfl)) ?_
      refine S.q rfl rfl (Qt.move (by conv => lhs; whnf)) ?_
      refine S.q rfl rfl (Qt.lookup Try.underlying71 Try.keyU Try.z58 rfl rfl (Has.ro hM)) ?_
      refine S.opS rfl rfl (OpV.slice1 (v := hv (getM ms (xs.getD k 0))) Try.underlying23 Try.elem58 (by decide) (by show _ = _; rw [← z_read]; rfl) (by rw [vl_hv, hvl_length]) (fun b39 => ?_))
      refine S.opS rfl rfl (OpV.app1 (bytes := 32) (news := hvl (getM ms (xs.getD k 0))) Try.underlying23 Try.elem58 rfl rfl (Has.blk (Has.at 0 rfl)) (by rw [hvl_length]) (bytesL_one _) (by simp only [maxLen]; omega) (by omega) (fun O' d' => ?_))
      refine S.q rfl rfl (Qt.assign (by conv => lhs; whnf)) ?_
      refine S.nil ?_
      refine TC.region ?_
      refine S.q rfl rfl (Qt.add (b := 1) rfl rfl (by simp only [kmax]; omega)) ?_
      refine S.q rfl rfl (Qt.move (by conv => lhs; whnf)) ?_
      refine S.nil ?_
      refine ⟨(k + 1, O', d'), ?_, ?_, ⟨?_, (List.forall_mem_cons.2 ⟨rfl, (List.forall_mem_cons.2 ⟨rfl, (fun _ h => nomatch h)⟩)⟩)⟩, (by dsimp only; rw [← read_step ms xs k (by omega)]; exact Sub.drop _ (Sub.refl _))⟩
      · show _ ≤ _; dsimp only; omega
      · show _ < _; dsimp only; omega
      repeat (first | exact Out.refl _ _ | refine Out.put rfl ?_ | refine Out.puts rfl ?_ | refine Out.scr ?_ | refine Out.scr' rfl ?_)
    · refine S.nil ?_
      refine TC.seq ?_
      refine S.if_f rfl ?_
      refine TC.exit ?_
      refine TC.seq ?_
      refine TC.region ?_
      refine S.q rfl rfl (Qt.move (by conv => lhs; whnf)) ?_
      refine S.q rfl rfl (Qt.assign (by conv => lhs; whnf)) ?_
      refine S.q rfl rfl (Qt.assign (by conv => lhs; whnf)) ?_
      refine S.nil ?_
      refine TC.ret ?_
      refine finQ.ret (RVs.tmp (by conv => lhs; whnf) (RVs.tmp (by conv => lhs; whnf) RVs.nil)) (Sub.refl _) ?_
      rw [readM_ok ha]
      obtain rfl : k = xs.length := by omega
      exact ⟨O, d, by simp; rfl, by simp⟩
  · refine S.opS rfl rfl (OpV.con0 Try.ent9 rfl (fun w hw => modelAsked_F A c xs n w (Rd.ro hR w hw) hc hm ha) ?_)
    refine S.q rfl rfl (Qt.assign (by conv => lhs; whnf)) ?_
    refine S.nil ?_
    refine TC.seq ?_
    refine TC.region ?_
    refine S.q rfl rfl (Qt.move (by conv => lhs; whnf)) ?_
    refine S.q rfl rfl (Qt.nenil_iface Try.underlying30 rfl) ?_
    refine S.nil ?_
    refine S.if_t rfl ?_
    refine TC.seq ?_
    refine TC.region ?_
    refine TL.ownNil 58 32 ?_
    refine S.q rfl rfl (Qt.move (by conv => lhs; whnf)) ?_
    refine S.q rfl rfl (Qt.assign (by conv => lhs; whnf)) ?_
    refine S.q rfl rfl (Qt.assign (by conv => lhs; whnf)) ?_
    refine S.nil ?_
    refine TC.ret ?_
    refine finQ.ret (RVs.tmp (by conv => lhs; whnf) (RVs.tmp (by conv => lhs; whnf) RVs.nil)) (Sub.refl _) ?_
    rw [readM_bad ha]
    exact ⟨none, 0, by rw [errv_pos ha]; rfl, rfl⟩
theorem asked3 : asked [3] 4 = 0 := by
  refine asked_ok (by decide) (by decide) (fun i hi => ?_) (by decide)
  simp at hi
theorem aliveWrite (b bm b12 b14 : Nat) (w : World) (hL : Sat w [MapA bm encU hv ([] : Ms)]) (hV : Ro w [bm] (Blk b 73 [.int .u64 ((4 : Nat) : Int), .map (some bm)])) (hR : Ro w [bm] (Blk b12 24 [.int .u64 ((3 : Nat) : Int)])) (hB : Ro w [bm] (Blk b14 58 (vl (hv oneH)))) :
    Calls Try.prog 23 #[.pointer (some ⟨b, 0, none⟩), .slice (some ⟨b12, 0, none⟩) 1 1, .slice (some ⟨b14, 0, none⟩) 1 1] w (Post w [bm] fun v L => v = .nilIface ∧ L = [MapA bm encU hv [(3, oneH)]]) := by
  have h := write_walk b bm 4 [] (some ⟨b12, 0, none⟩) (some ⟨b14, 0, none⟩) 1 1 [3] [oneH] w hL hV hR.blk (by have h := hB.blk; rw [vl_hv] at h; rw [hcs_cons, hcs_nil, List.append_nil]; exact h) (by decide) (by decide)
  rw [writeM_ok asked3 rfl] at h
  exact h
theorem aliveLen (b bm : Nat) (w : World) (hV : Ro w [] (Blk b 73 [.int .u64 ((4 : Nat) : Int), .map (some bm)])) (hM : Ro w [] (MapA bm encU hv [(3, oneH)])) : Calls Try.prog 28 #[.pointer (some ⟨b, 0, none⟩)] w (Ret w (.int .i64 ((1 : Nat) : Int))) :=
  Calls.ret (len_walk b bm 4 [(3, oneH)] w hV hM)
theorem aliveCut (b bm : Nat) (w : World) (hL : Sat w [MapA bm encU hv [(3, oneH)], Blk b 73 [.int .u64 ((4 : Nat) : Int), .map (some bm)]]) :
    Calls Try.prog 22 #[.pointer (some ⟨b, 0, none⟩), .int .u64 ((3 : Nat) : Int)] w (Post w [bm, b] fun v L => v = .nilIface ∧ L = [MapA bm encU hv [], Blk b 73 [.int .u64 ((3 : Nat) : Int), .map (some bm)]]) := by
  have h := resize_walk b bm 4 3 [(3, oneH)] w hL (by decide)
  rw [resizeM_ok (by decide) (by decide)] at h
  exact h
theorem aliveGrow (b bm : Nat) (w : World) (hL : Sat w [MapA bm encU hv ([] : Ms), Blk b 73 [.int .u64 ((3 : Nat) : Int), .map (some bm)]]) :
    Calls Try.prog 22 #[.pointer (some ⟨b, 0, none⟩), .int .u64 ((4 : Nat) : Int)] w (Post w [bm, b] fun v L => v = .nilIface ∧ L = [MapA bm encU hv [], Blk b 73 [.int .u64 ((4 : Nat) : Int), .map (some bm)]]) := by
  have h := resize_walk b bm 3 4 [] w hL (by decide)
  rw [resizeM_ok (by decide) (by decide)] at h
  exact h
theorem aliveRead (b bm b35 : Nat) (w : World) (hV : Ro w [] (Blk b 73 [.int .u64 ((4 : Nat) : Int), .map (some bm)])) (hM : Ro w [] (MapA bm encU hv ([] : Ms))) (hR : Ro w [] (Blk b35 24 [.int .u64 ((3 : Nat) : Int)])) :
    Calls Try.prog 24 #[.pointer (some ⟨b, 0, none⟩), .slice (some ⟨b35, 0, none⟩) 1 1] w (Post w [] fun v L => ∃ O d, v = .tuple #[.slice O 1 d, .nilIface] ∧ L = [OwnA 58 32 O 1 d (hcs [zeroH])]) := by
  have h := read_walk b bm 4 [] (some ⟨b35, 0, none⟩) 1 [3] w hV hM hR.blk (by decide) (by decide) (by decide)
  rw [readM_ok asked3] at h
  exact h

set_option maxHeartbeats 400000 in
theorem alive_walk (w0 : World) :
    Calls Try.prog 7 #[] w0 (Post w0 [] fun v L => v = .bool true ∧ L = []) := by
  refine Calls.of (L := []) (n := 53) (rs := [.tmp 0]) Try.func7 rfl rfl rfl (Nat.le_of_ble_eq_true rfl) (Sat.nil _) ?_
  refine TC.seq ?_
  refine TC.region ?_
  refine S.q rfl rfl (Qt.assign (by conv => lhs; whnf)) ?_
  refine S.nil ?_
  refine TC.seq ?_
  refine TC.region ?_
  refine S.opS rfl rfl (OpV.con (Pre := []) (R := _) Try.ent14 rfl (List.Perm.refl _) (fun w hw => new_ok_walk 4 (by decide) w) ?_)
  rintro v L' ⟨b, bm, rfl, rfl⟩
  refine S.q rfl rfl (Qt.move (by conv => lhs; whnf)) ?_
  refine S.q rfl rfl (Qt.extract rfl rfl) ?_
  refine S.q rfl rfl (Qt.extract rfl rfl) ?_
  refine S.q rfl rfl (Qt.assign (by conv => lhs; whnf)) ?_
  refine S.q rfl rfl (Qt.assign (by conv => lhs; whnf)) ?_
  refine S.nil ?_
  refine TC.seq ?_
  refine TC.seq ?_
  refine TC.region ?_
  refine S.q rfl rfl (Qt.move (by conv => lhs; whnf)) ?_
  refine S.q rfl rfl (Qt.nenil_nil Try.underlying30 rfl) ?_
  refine S.q rfl rfl (Qt.move (by conv => lhs; whnf)) ?_
  refine S.qg rfl rfl rfl (Qt.move (by conv => lhs; whnf)) ?_
  refine S.opg rfl rfl rfl (OpV.slice1 (v := .int .u64 ((3 : Nat) : Int)) Try.underlying22 Try.elem24 (by decide) rfl rfl (fun b12 => ?_))
  refine S.qg rfl rfl rfl (Qt.build (v := hv oneH) rfl (fun _ => by kernel_rfl)) ?_
  refine S.opg rfl rfl rfl (OpV.slice1 (v := hv oneH) Try.underlying23 Try.elem58 (by decide) rfl (by rw [vl_hv, hvl_length]) (fun b14 => ?_))
  refine S.opg rfl rfl rfl (OpV.con (Pre := [MapA bm encU hv []]) (R := _) Try.ent23 rfl (List.perm_append_comm (l₁ := [_, _, _]) (l₂ := [_])) (fun w hw => aliveWrite b bm b12 b14 w hw.sat.left (Ro.of_rest hw (List.mem_cons_of_mem _ (List.mem_cons_of_mem _ (List.mem_cons_self ..)))) (Ro.of_rest hw (List.mem_cons_of_mem _ (List.mem_cons_self ..))) (Ro.of_rest hw (List.mem_cons_self ..))) ?_)
  rintro v L' ⟨rfl, rfl⟩
  refine S.qg rfl rfl rfl (Qt.nenil_nil Try.underlying30 rfl) ?_
  refine S.q rfl rfl (Qt.pick_f rfl (by conv => lhs; whnf)) ?_
  refine S.q rfl rfl (Qt.move (by conv => lhs; whnf)) ?_
  refine S.qg rfl rfl rfl (Qt.move (by conv => lhs; whnf)) ?_
  refine S.opg rfl rfl rfl (OpV.con0 Try.ent28 rfl (fun w hw => aliveLen b bm w (Rd.at 3 rfl w hw) (Rd.at 0 rfl w hw)) ?_)
  refine S.qg rfl rfl rfl (Qt.dF (Qt.ne (b := 1) rfl rfl) (by decide)) ?_
  refine S.q rfl rfl (Qt.pick_f rfl (by conv => lhs; whnf)) ?_
  refine S.q rfl rfl (Qt.move (by conv => lhs; whnf)) ?_
  refine S.qg rfl rfl rfl (Qt.move (by conv => lhs; whnf)) ?_
  refine S.opg rfl rfl rfl (OpV.con (Pre := [MapA bm encU hv [(3, oneH)], Blk b 73 [.int .u64 ((4 : Nat) : Int), .map (some bm)]]) (R := _) Try.ent22 rfl (List.Perm.cons _ (List.perm_append_comm (l₁ := [_, _]) (l₂ := [_]))) (fun w hw => aliveCut b bm w hw.sat.left) ?_)
  rintro v L' ⟨rfl, rfl⟩
  refine S.qg rfl rfl rfl (Qt.nenil_nil Try.underlying30 rfl) ?_
  refine S.q rfl rfl (Qt.pick_f rfl (by conv => lhs; whnf)) ?_
  refine S.q rfl rfl (Qt.move (by conv => lhs; whnf)) ?_
  refine S.qg rfl rfl rfl (Qt.move (by conv => lhs; whnf)) ?_
  refine S.opg rfl rfl rfl (OpV.con (Pre := [MapA bm encU hv [], Blk b 73 [.int .u64 ((3 : Nat) : Int), .map (some bm)]]) (R := _) Try.ent22 rfl (List.Perm.refl _) (fun w hw => aliveGrow b bm w hw.sat.left) ?_)
  rintro v L' ⟨rfl, rfl⟩
  refine S.qg rfl rfl rfl (Qt.nenil_nil Try.underlying30 rfl) ?_
  refine S.q rfl rfl (Qt.pick_f rfl (by conv => lhs; whnf)) ?_
  refine S.nil ?_
  refine S.if_f rfl ?_
  refine TC.skip ?_
  refine TC.seq ?_
  refine TC.region ?_
  refine S.q rfl rfl (Qt.move (by conv => lhs; whnf)) ?_
  refine S.opS rfl rfl (OpV.slice1 (v := .int .u64 ((3 : Nat) : Int)) Try.underlying22 Try.elem24 (by decide) rfl rfl (fun b35 => ?_))
  refine S.opS rfl rfl (OpV.con (Pre := []) (R := _) Try.ent24 rfl (List.Perm.refl _) (fun w hw => aliveRead b bm b35 w (Rd.at 2 rfl w hw) (Rd.at 1 rfl w hw) (Rd.at 0 rfl w hw)) ?_)
  rintro v L' ⟨O, d, rfl, rfl⟩
  refine S.q rfl rfl (Qt.move (by conv => lhs; whnf)) ?_
  refine S.q rfl rfl (Qt.extract rfl rfl) ?_
  refine S.q rfl rfl (Qt.extract rfl rfl) ?_
  refine S.q rfl rfl (Qt.assign (by conv => lhs; whnf)) ?_
  refine S.q rfl rfl (Qt.assign (by conv => lhs; whnf)) ?_
  refine S.nil ?_
  refine TC.seq ?_
  refine TC.region ?_
  refine S.q rfl rfl (Qt.move (by conv => lhs; whnf)) ?_
  refine S.q rfl rfl (Qt.eqnil_nil Try.underlying30 rfl) ?_
  refine S.q rfl rfl (Qt.move (by conv => lhs; whnf)) ?_
  refine S.qg rfl rfl rfl (Qt.move (by conv => lhs; whnf)) ?_
  refine S.qg rfl rfl rfl (Qt.len_slice Try.underlying23 rfl) ?_
  refine S.qg rfl rfl rfl (Qt.dT (Qt.eq (b := 1) rfl rfl) (by decide)) ?_
  refine S.q rfl rfl (Qt.pick_t rfl (by conv => lhs; whnf)) ?_
  refine S.q rfl rfl (Qt.move (by conv => lhs; whnf)) ?_
  refine S.qg rfl rfl rfl (Qt.move (by conv => lhs; whnf)) ?_
  refine S.qg rfl rfl rfl (Qt.index Try.underlying23 Try.cells58 rfl rfl (by decide) (Has.own (Has.at 0 rfl)) (by decide)) ?_
  refine S.qg rfl rfl rfl (Qt.load rfl (Ld.slr (Has.own (Has.at 0 rfl)) Try.row58 (by rw [hvl_length]; exact Try.cells58) (by rw [hvl_length]; exact Nat.succ_pos _) (hcs_at (l := [zeroH]) (i := 0) (by decide) rfl))) ?_
  refine S.qg rfl rfl rfl (Qt.build (v := hv zeroH) rfl (fun _ => by kernel_rfl)) ?_
  refine S.qg rfl rfl rfl (Qt.dT (Qt.eqH (a := zeroH) (b := zeroH) Try.guard58 Try.underlying58 Try.underlying5 Try.cells5 rfl rfl) (rfl)) ?_
  refine S.q rfl rfl (Qt.pick_t rfl (by conv => lhs; whnf)) ?_
  refine S.q rfl rfl (Qt.assign (by conv => lhs; whnf)) ?_
  refine S.nil ?_
  refine TC.ret ?_
  refine finQ.ret (RVs.tmp (by conv => lhs; whnf) RVs.nil) (Sub.nil _) ?_
  exact ⟨rfl, rfl⟩
set_option maxHeartbeats 400000 in
theorem modelAsks_walk (A : Option Addr) (c : Nat) (xs : List Nat) (v0 v1 v2 : Value) (f : Nat) (m : Int) (n : Nat) (w0 : World) (hR : Ro w0 [] (SlA A (u64s xs))) (hc : xs.length ≤ c) (hm : c ≤ 9223372036854775807) (hn : n ≤ 18446744073709551615) (hmm : m ≤ 9223372036854775807) :
    Calls Try.prog 3 #[.slice A xs.length c, .agg #[v0, v1, v2, .int .u64 (f : Int), .int .i64 m], .int .u64 (n : Int)] w0 (Post w0 [] fun v L => v = .bool true ∧ L = []) := by
  refine Calls.of (L := []) (n := 38) (rs := [.tmp 6]) Try.func3 rfl rfl rfl (Nat.le_of_ble_eq_true rfl) (Sat.nil _) ?_
  have hq : (if (300 : Int) < m then 300 else m) ≤ 9223372036854775807 := by split <;> omega
  refine TC.seq ?_
  refine TC.region ?_
  refine S.opS rfl rfl (OpV.box (by conv => lhs; whnf) (fun b4 => ?_))
  refine S.q rfl rfl (Qt.assign (by conv => lhs; whnf)) ?_
  refine S.nil ?_
  refine TC.seq ?_
  refine TC.seq ?_
  refine TC.region ?_
  refine S.opS rfl rfl (OpV.con0 Try.ent7 rfl (fun w hw => Calls.ret (alive_walk w)) ?_)
  refine S.q rfl rfl (Qt.not_t rfl) ?_
  refine S.nil ?_
  refine S.if_f rfl ?_
  refine TC.skip ?_
  refine TC.seq ?_
  refine TC.seq ?_
  refine TC.region ?_
  refine S.q rfl rfl (Qt.move (by conv => lhs; whnf)) ?_
  refine S.q rfl rfl (Qt.len_slice Try.underlying22 rfl) ?_
  refine S.dec rfl rfl (Qt.gt (b := 400) rfl rfl) (fun h12 => ?_) (fun h12 => ?_)
  · refine S.nil ?_
    refine S.if_t rfl ?_
    refine TC.seq ?_
    refine TC.region ?_
    refine S.q rfl rfl (Qt.assign (by conv => lhs; whnf)) ?_
    refine S.nil ?_
    refine TC.ret ?_
    refine finQ.ret (RVs.tmp (by conv => lhs; whnf) RVs.nil) (Sub.nil _) ?_
    exact ⟨rfl, rfl⟩
  · refine S.nil ?_
    refine S.if_f rfl ?_
    refine TC.skip ?_
    refine TC.seq ?_
    refine TC.region ?_
    refine S.q rfl rfl (Qt.field Try.underlying26 rfl Try.cells3 rfl) ?_
    refine S.q rfl rfl (Qt.load rfl (Ld.one (Has.at 0 rfl) Try.one3 rfl)) ?_
    refine S.q rfl rfl (Qt.min2 (m := m) (n := 300) rfl rfl) ?_
    refine S.q rfl rfl (Qt.assign (by conv => lhs; whnf)) ?_
    refine S.nil ?_
    refine TC.seq ?_
    refine S.draw Try.mixed (Sub.keep _ (Sub.nil [])) ?_
    refine D.q rfl (by kernel_rfl) (by kernel_rfl) rfl rfl (Qt.move (by conv => lhs; whnf)) ?_
    refine D.q rfl (by kernel_rfl) (by kernel_rfl) rfl rfl (Qt.move (by conv => lhs; whnf)) ?_
    refine D.c rfl (by kernel_rfl) (by kernel_rfl) rfl rfl (Det.con0 Try.ent9 rfl (fun w hw => Calls.ret (modelAsked_walk A c xs n w (Rd.ro hR w hw) hc hm))) ?_
    refine D.c rfl (by kernel_rfl) (by kernel_rfl) rfl rfl (Det.con0 Try.ent8 rfl (fun w hw => num_errv (asked xs n) w)) ?_
    refine D.q rfl (by kernel_rfl) (by kernel_rfl) rfl rfl (Qt.move (by conv => lhs; whnf)) ?_
    refine D.q rfl (by kernel_rfl) (by kernel_rfl) rfl rfl (Qt.move (by conv => lhs; whnf)) ?_
    refine D.c rfl (by kernel_rfl) (by kernel_rfl) rfl rfl (Det.con0 Try.ent10 rfl (fun w hw => Calls.ret (refAsked_walk A c xs n w (Rd.ro hR w hw) hc hm))) ?_
    refine D.q rfl (by kernel_rfl) (by kernel_rfl) rfl rfl (Qt.dT (Qt.eq rfl rfl) (rfl)) ?_
    refine D.q rfl (by kernel_rfl) (by kernel_rfl) rfl rfl (Qt.move (by conv => lhs; whnf)) ?_
    refine D.qg rfl (by kernel_rfl) (by kernel_rfl) rfl rfl rfl (Qt.field Try.underlying26 rfl Try.cells24 rfl) ?_
    refine D.qg rfl (by kernel_rfl) (by kernel_rfl) rfl rfl rfl (Qt.load rfl (Ld.one (Has.at 0 rfl) Try.one24 rfl)) ?_
    refine D.qg rfl (by kernel_rfl) (by kernel_rfl) rfl rfl rfl (Qt.move (by conv => lhs; whnf)) ?_
    refine D.qg rfl (by kernel_rfl) (by kernel_rfl) rfl rfl rfl (Qt.move (by conv => lhs; whnf)) ?_
    refine D.cg rfl (by kernel_rfl) (by kernel_rfl) rfl rfl rfl (Det.con0 Try.ent11 rfl (fun w hw => Calls.ret (spanned_walk f n (if (300 : Int) < m then 300 else m) w hn hq))) ?_
    refine D.cg rfl (by kernel_rfl) (by kernel_rfl) rfl rfl rfl (Det.con0 Try.ent8 rfl (fun w hw => num_errv (spanned f (if (300 : Int) < m then 300 else m) n) w)) ?_
    refine D.qg rfl (by kernel_rfl) (by kernel_rfl) rfl rfl rfl (Qt.field Try.underlying26 rfl Try.cells24 rfl) ?_
    refine D.qg rfl (by kernel_rfl) (by kernel_rfl) rfl rfl rfl (Qt.load rfl (Ld.one (Has.at 0 rfl) Try.one24 rfl)) ?_
    refine D.qg rfl (by kernel_rfl) (by kernel_rfl) rfl rfl rfl (Qt.move (by conv => lhs; whnf)) ?_
    refine D.qg rfl (by kernel_rfl) (by kernel_rfl) rfl rfl rfl (Qt.move (by conv => lhs; whnf)) ?_
    refine D.cg rfl (by kernel_rfl) (by kernel_rfl) rfl rfl rfl (Det.con0 Try.ent12 rfl (fun w hw => Calls.ret (refSpanned_walk f n (if (300 : Int) < m then 300 else m) w hn hq))) ?_
    refine D.qg rfl (by kernel_rfl) (by kernel_rfl) rfl rfl rfl (Qt.dT (Qt.eq rfl rfl) (rfl)) ?_
    refine D.q rfl (by kernel_rfl) (by kernel_rfl) rfl rfl (Qt.pick_t rfl (by conv => lhs; whnf)) ?_
    refine D.q rfl (by kernel_rfl) (by kernel_rfl) rfl rfl (Qt.assign (by conv => lhs; whnf)) ?_
    refine D.done (Sub.keep _ (Sub.nil [])) rfl ?_
    refine TC.ret ?_
    refine finQ.ret (RVs.tmp (by conv => lhs; whnf) RVs.nil) (Sub.nil _) ?_
    exact ⟨rfl, rfl⟩
set_option maxHeartbeats 400000 in
theorem is_walk (k m : Nat) (w0 : World) :
    Calls Try.prog 15 #[errv 42 k, .int .i64 (m : Int)] w0 (Post w0 [] fun v L => v = .bool (decide (k = m)) ∧ L = []) := by
  refine Calls.of (L := []) (n := 9) (rs := [.tmp 4]) Try.func15 rfl rfl rfl (Nat.le_of_ble_eq_true rfl) (Sat.nil _) ?_
  refine TC.seq ?_
  refine TC.region ?_
  refine S.q rfl rfl (Qt.assign (by conv => lhs; whnf)) ?_
  refine S.nil ?_
  refine TC.seq ?_
  refine TC.region ?_
  refine S.q rfl rfl (Qt.move (by conv => lhs; whnf)) ?_
  refine S.opS rfl rfl (OpV.con0 Try.ent8 rfl (fun w hw => num_errv k w) ?_)
  refine S.q rfl rfl (Qt.move (by conv => lhs; whnf)) ?_
  refine S.dec rfl rfl (Qt.eq rfl rfl) (fun h8 => ?_) (fun h8 => ?_)
  · refine S.q rfl rfl (Qt.assign (by conv => lhs; whnf)) ?_
    refine S.nil ?_
    refine TC.ret ?_
    refine finQ.ret (RVs.tmp (by conv => lhs; whnf) RVs.nil) (Sub.nil _) ?_
    exact ⟨by simp [pack, *], rfl⟩
  · refine S.q rfl rfl (Qt.assign (by conv => lhs; whnf)) ?_
    refine S.nil ?_
    refine TC.ret ?_
    refine finQ.ret (RVs.tmp (by conv => lhs; whnf) RVs.nil) (Sub.nil _) ?_
    exact ⟨by simp [pack, *], rfl⟩
set_option maxHeartbeats 400000 in
theorem of_nil_walk (w0 : World) :
    Calls Try.prog 37 #[.pointer none] w0 (Post w0 [] fun v L => v = .tuple #[.int .u64 ((0 : Nat) : Int), .iface 42 (.int .i64 ((11 : Nat) : Int))] ∧ L = []) := by
  refine Calls.of (L := []) (n := 11) (rs := [.tmp 2, .tmp 3]) Try.func37 rfl rfl rfl (Nat.le_of_ble_eq_true rfl) (Sat.nil _) ?_
  refine TC.seq ?_
  refine TC.region ?_
  refine S.q rfl rfl (Qt.assign (by conv => lhs; whnf)) ?_
  refine S.q rfl rfl (Qt.assign (by conv => lhs; whnf)) ?_
  refine S.nil ?_
  refine TC.seq ?_
  refine TC.seq ?_
  refine TC.region ?_
  refine S.q rfl rfl (Qt.move (by conv => lhs; whnf)) ?_
  refine S.q rfl rfl (Qt.eqp_none Try.underlying38 rfl) ?_
  refine S.nil ?_
  refine S.if_t rfl ?_
  refine TC.seq ?_
  refine TC.region ?_
  refine S.q rfl rfl (Qt.makeInterface Try.underlying42 (fun _ h => nomatch h) (by conv => lhs; whnf)) ?_
  refine S.q rfl rfl (Qt.assign (by conv => lhs; whnf)) ?_
  refine S.q rfl rfl (Qt.assign (by conv => lhs; whnf)) ?_
  refine S.nil ?_
  refine TC.ret ?_
  refine finQ.ret (RVs.tmp (by conv => lhs; whnf) (RVs.tmp (by conv => lhs; whnf) RVs.nil)) (Sub.nil _) ?_
  exact ⟨rfl, rfl⟩
theorem of_nilR (w0 : World) : Calls Try.prog 37 #[.pointer none] w0 (Ret w0 (.tuple #[.int .u64 ((0 : Nat) : Int), .iface 42 (.int .i64 ((11 : Nat) : Int))])) := Calls.ret (of_nil_walk w0)

set_option maxHeartbeats 400000 in
theorem write_nil_walk (v1 v2 : Value) (w0 : World) :
    Calls Try.prog 23 #[.pointer none, v1, v2] w0 (Post w0 [] fun v L => v = .iface 42 (.int .i64 ((11 : Nat) : Int)) ∧ L = []) := by
  refine Calls.of (L := []) (n := 49) (rs := [.tmp 6]) Try.func23 rfl rfl rfl (Nat.le_of_ble_eq_true rfl) (Sat.nil _) ?_
  refine TC.seq ?_
  refine TC.region ?_
  refine S.q rfl rfl (Qt.assign (by conv => lhs; whnf)) ?_
  refine S.nil ?_
  refine TC.seq ?_
  refine TC.region ?_
  refine S.q rfl rfl (Qt.move (by conv => lhs; whnf)) ?_
  refine S.opS rfl rfl (OpV.con0 Try.ent37 rfl (fun w hw => of_nilR w) ?_)
  refine S.q rfl rfl (Qt.move (by conv => lhs; whnf)) ?_
  refine S.q rfl rfl (Qt.extract rfl rfl) ?_
  refine S.q rfl rfl (Qt.extract rfl rfl) ?_
  refine S.q rfl rfl (Qt.assign (by conv => lhs; whnf)) ?_
  refine S.q rfl rfl (Qt.assign (by conv => lhs; whnf)) ?_
  refine S.nil ?_
  refine TC.seq ?_
  refine TC.seq ?_
  refine TC.region ?_
  refine S.q rfl rfl (Qt.move (by conv => lhs; whnf)) ?_
  refine S.q rfl rfl (Qt.nenil_iface Try.underlying30 rfl) ?_
  refine S.nil ?_
  refine S.if_t rfl ?_
  refine TC.seq ?_
  refine TC.region ?_
  refine S.q rfl rfl (Qt.move (by conv => lhs; whnf)) ?_
  refine S.q rfl rfl (Qt.assign (by conv => lhs; whnf)) ?_
  refine S.nil ?_
  refine TC.ret ?_
  refine finQ.ret (RVs.tmp (by conv => lhs; whnf) RVs.nil) (Sub.nil _) ?_
  exact ⟨rfl, rfl⟩
set_option maxHeartbeats 400000 in
theorem trim_nil_walk (v1 v2 : Value) (w0 : World) :
    Calls Try.prog 30 #[.pointer none, v1] w0 (Post w0 [] fun v L => v = .iface 42 (.int .i64 ((11 : Nat) : Int)) ∧ L = []) := by
  refine Calls.of (L := []) (n := 36) (rs := [.tmp 4]) Try.func30 rfl rfl rfl (Nat.le_of_ble_eq_true rfl) (Sat.nil _) ?_
  refine TC.seq ?_
  refine TC.region ?_
  refine S.q rfl rfl (Qt.assign (by conv => lhs; whnf)) ?_
  refine S.nil ?_
  refine TC.seq ?_
  refine TC.region ?_
  refine S.q rfl rfl (Qt.move (by conv => lhs; whnf)) ?_
  refine S.opS rfl rfl (OpV.con0 Try.ent37 rfl (fun w hw => of_nilR w) ?_)
  refine S.q rfl rfl (Qt.move (by conv => lhs; whnf)) ?_
  refine S.q rfl rfl (Qt.extract rfl rfl) ?_
  refine S.q rfl rfl (Qt.extract rfl rfl) ?_
  refine S.q rfl rfl (Qt.assign (by conv => lhs; whnf)) ?_
  refine S.q rfl rfl (Qt.assign (by conv => lhs; whnf)) ?_
  refine S.nil ?_
  refine TC.seq ?_
  refine TC.seq ?_
  refine TC.region ?_
  refine S.q rfl rfl (Qt.move (by conv => lhs; whnf)) ?_
  refine S.q rfl rfl (Qt.nenil_iface Try.underlying30 rfl) ?_
  refine S.nil ?_
  refine S.if_t rfl ?_
  refine TC.seq ?_
  refine TC.region ?_
  refine S.q rfl rfl (Qt.move (by conv => lhs; whnf)) ?_
  refine S.q rfl rfl (Qt.assign (by conv => lhs; whnf)) ?_
  refine S.nil ?_
  refine TC.ret ?_
  refine finQ.ret (RVs.tmp (by conv => lhs; whnf) RVs.nil) (Sub.nil _) ?_
  exact ⟨rfl, rfl⟩
set_option maxHeartbeats 400000 in
theorem resize_nil_walk (v1 v2 : Value) (w0 : World) :
    Calls Try.prog 22 #[.pointer none, v1] w0 (Post w0 [] fun v L => v = .iface 42 (.int .i64 ((11 : Nat) : Int)) ∧ L = []) := by
  refine Calls.of (L := []) (n := 48) (rs := [.tmp 4]) Try.func22 rfl rfl rfl (Nat.le_of_ble_eq_true rfl) (Sat.nil _) ?_
  refine TC.seq ?_
  refine TC.region ?_
  refine S.opS rfl rfl (OpV.box (by conv => lhs; whnf) (fun b3 => ?_))
  refine S.q rfl rfl (Qt.assign (by conv => lhs; whnf)) ?_
  refine S.nil ?_
  refine TC.seq ?_
  refine TC.seq ?_
  refine TC.region ?_
  refine S.q rfl rfl (Qt.move (by conv => lhs; whnf)) ?_
  refine S.opS rfl rfl (OpV.con0 Try.ent37 rfl (fun w hw => of_nilR w) ?_)
  refine S.q rfl rfl (Qt.move (by conv => lhs; whnf)) ?_
  refine S.q rfl rfl (Qt.extract rfl rfl) ?_
  refine S.q rfl rfl (Qt.extract rfl rfl) ?_
  refine S.q rfl rfl (Qt.assign (by conv => lhs; whnf)) ?_
  refine S.q rfl rfl (Qt.assign (by conv => lhs; whnf)) ?_
  refine S.nil ?_
  refine TC.seq ?_
  refine TC.region ?_
  refine S.q rfl rfl (Qt.move (by conv => lhs; whnf)) ?_
  refine S.q rfl rfl (Qt.nenil_iface Try.underlying30 rfl) ?_
  refine S.nil ?_
  refine S.if_t rfl ?_
  refine TC.seq ?_
  refine TC.region ?_
  refine S.q rfl rfl (Qt.move (by conv => lhs; whnf)) ?_
  refine S.q rfl rfl (Qt.assign (by conv => lhs; whnf)) ?_
  refine S.nil ?_
  refine TC.ret ?_
  refine finQ.ret (RVs.tmp (by conv => lhs; whnf) RVs.nil) (Sub.nil _) ?_
  exact ⟨rfl, rfl⟩
set_option maxHeartbeats 400000 in
theorem read_nil_walk (v1 v2 : Value) (w0 : World) :
    Calls Try.prog 24 #[.pointer none, v1] w0 (Post w0 [] fun v L => v = .tuple #[.slice none 0 0, .iface 42 (.int .i64 ((11 : Nat) : Int))] ∧ L = []) := by
  refine Calls.of (L := []) (n := 43) (rs := [.tmp 4, .tmp 5]) Try.func24 rfl rfl rfl (Nat.le_of_ble_eq_true rfl) (Sat.nil _) ?_
  refine TC.seq ?_
  refine TC.region ?_
  refine S.q rfl rfl (Qt.assign (by conv => lhs; whnf)) ?_
  refine S.q rfl rfl (Qt.assign (by conv => lhs; whnf)) ?_
  refine S.nil ?_
  refine TC.seq ?_
  refine TC.region ?_
  refine S.q rfl rfl (Qt.move (by conv => lhs; whnf)) ?_
  refine S.opS rfl rfl (OpV.con0 Try.ent37 rfl (fun w hw => of_nilR w) ?_)
  refine S.q rfl rfl (Qt.move (by conv => lhs; whnf)) ?_
  refine S.q rfl rfl (Qt.extract rfl rfl) ?_
  refine S.q rfl rfl (Qt.extract rfl rfl) ?_
  refine S.q rfl rfl (Qt.assign (by conv => lhs; whnf)) ?_
  refine S.q rfl rfl (Qt.assign (by conv => lhs; whnf)) ?_
  refine S.nil ?_
  refine TC.seq ?_
  refine TC.seq ?_
  refine TC.region ?_
  refine S.q rfl rfl (Qt.move (by conv => lhs; whnf)) ?_
  refine S.q rfl rfl (Qt.nenil_iface Try.underlying30 rfl) ?_
  refine S.nil ?_
  refine S.if_t rfl ?_
  refine TC.seq ?_
  refine TC.region ?_
  refine S.q rfl rfl (Qt.move (by conv => lhs; whnf)) ?_
  refine S.q rfl rfl (Qt.assign (by conv => lhs; whnf)) ?_
  refine S.q rfl rfl (Qt.assign (by conv => lhs; whnf)) ?_
  refine S.nil ?_
  refine TC.ret ?_
  refine finQ.ret (RVs.tmp (by conv => lhs; whnf) (RVs.tmp (by conv => lhs; whnf) RVs.nil)) (Sub.nil _) ?_
  exact ⟨rfl, rfl⟩
set_option maxHeartbeats 400000 in
theorem span_nil_walk (v1 v2 : Value) (w0 : World) :
    Calls Try.prog 25 #[.pointer none, v1, v2] w0 (Post w0 [] fun v L => v = .tuple #[.slice none 0 0, .iface 42 (.int .i64 ((11 : Nat) : Int))] ∧ L = []) := by
  refine Calls.of (L := []) (n := 46) (rs := [.tmp 6, .tmp 7]) Try.func25 rfl rfl rfl (Nat.le_of_ble_eq_true rfl) (Sat.nil _) ?_
  refine TC.seq ?_
  refine TC.region ?_
  refine S.q rfl rfl (Qt.assign (by conv => lhs; whnf)) ?_
  refine S.q rfl rfl (Qt.assign (by conv => lhs; whnf)) ?_
  refine S.nil ?_
  refine TC.seq ?_
  refine TC.region ?_
  refine S.q rfl rfl (Qt.move (by conv => lhs; whnf)) ?_
  refine S.opS rfl rfl (OpV.con0 Try.ent37 rfl (fun w hw => of_nilR w) ?_)
  refine S.q rfl rfl (Qt.move (by conv => lhs; whnf)) ?_
  refine S.q rfl rfl (Qt.extract rfl rfl) ?_
  refine S.q rfl rfl (Qt.extract rfl rfl) ?_
  refine S.q rfl rfl (Qt.assign (by conv => lhs; whnf)) ?_
  refine S.q rfl rfl (Qt.assign (by conv => lhs; whnf)) ?_
  refine S.nil ?_
  refine TC.seq ?_
  refine TC.seq ?_
  refine TC.region ?_
  refine S.q rfl rfl (Qt.move (by conv => lhs; whnf)) ?_
  refine S.q rfl rfl (Qt.nenil_iface Try.underlying30 rfl) ?_
  refine S.nil ?_
  refine S.if_t rfl ?_
  refine TC.seq ?_
  refine TC.region ?_
  refine S.q rfl rfl (Qt.move (by conv => lhs; whnf)) ?_
  refine S.q rfl rfl (Qt.assign (by conv => lhs; whnf)) ?_
  refine S.q rfl rfl (Qt.assign (by conv => lhs; whnf)) ?_
  refine S.nil ?_
  refine TC.ret ?_
  refine finQ.ret (RVs.tmp (by conv => lhs; whnf) (RVs.tmp (by conv => lhs; whnf) RVs.nil)) (Sub.nil _) ?_
  exact ⟨rfl, rfl⟩
set_option maxHeartbeats 400000 in
theorem blocks_nil_walk (w0 : World) :
    Calls Try.prog 26 #[.pointer none] w0 (Post w0 [] fun v L => v = .int .u64 ((0 : Nat) : Int) ∧ L = []) := by
  refine Calls.of (L := []) (n := 11) (rs := [.tmp 2]) Try.func26 rfl rfl rfl (Nat.le_of_ble_eq_true rfl) (Sat.nil _) ?_
  refine TC.seq ?_
  refine TC.region ?_
  refine S.q rfl rfl (Qt.assign (by conv => lhs; whnf)) ?_
  refine S.nil ?_
  refine TC.seq ?_
  refine TC.region ?_
  refine S.q rfl rfl (Qt.move (by conv => lhs; whnf)) ?_
  refine S.opS rfl rfl (OpV.con0 Try.ent37 rfl (fun w hw => of_nilR w) ?_)
  refine S.q rfl rfl (Qt.move (by conv => lhs; whnf)) ?_
  refine S.q rfl rfl (Qt.extract rfl rfl) ?_
  refine S.q rfl rfl (Qt.extract rfl rfl) ?_
  refine S.q rfl rfl (Qt.assign (by conv => lhs; whnf)) ?_
  refine S.q rfl rfl (Qt.assign (by conv => lhs; whnf)) ?_
  refine S.nil ?_
  refine TC.seq ?_
  refine TC.region ?_
  refine S.q rfl rfl (Qt.move (by conv => lhs; whnf)) ?_
  refine S.q rfl rfl (Qt.assign (by conv => lhs; whnf)) ?_
  refine S.nil ?_
  refine TC.ret ?_
  refine finQ.ret (RVs.tmp (by conv => lhs; whnf) RVs.nil) (Sub.nil _) ?_
  exact ⟨rfl, rfl⟩
set_option maxHeartbeats 400000 in
theorem len_nil_walk (w0 : World) :
    Calls Try.prog 28 #[.pointer none] w0 (Post w0 [] fun v L => v = .int .i64 ((0 : Nat) : Int) ∧ L = []) := by
  refine Calls.of (L := []) (n := 10) (rs := [.tmp 2]) Try.func28 rfl rfl rfl (Nat.le_of_ble_eq_true rfl) (Sat.nil _) ?_
  refine TC.seq ?_
  refine TC.region ?_
  refine S.q rfl rfl (Qt.assign (by conv => lhs; whnf)) ?_
  refine S.nil ?_
  refine TC.seq ?_
  refine TC.seq ?_
  refine TC.region ?_
  refine S.q rfl rfl (Qt.move (by conv => lhs; whnf)) ?_
  refine S.q rfl rfl (Qt.eqp_none Try.underlying38 rfl) ?_
  refine S.nil ?_
  refine S.if_t rfl ?_
  refine TC.seq ?_
  refine TC.region ?_
  refine S.q rfl rfl (Qt.assign (by conv => lhs; whnf)) ?_
  refine S.nil ?_
  refine TC.ret ?_
  refine finQ.ret (RVs.tmp (by conv => lhs; whnf) RVs.nil) (Sub.nil _) ?_
  exact ⟨rfl, rfl⟩
set_option maxHeartbeats 400000 in
theorem copy_nil_walk (w0 : World) :
    Calls Try.prog 19 #[.pointer none] w0 (Post w0 [] fun v L => v = .pointer none ∧ L = []) := by
  refine Calls.of (L := []) (n := 16) (rs := [.tmp 2]) Try.func19 rfl rfl rfl (Nat.le_of_ble_eq_true rfl) (Sat.nil _) ?_
  refine TC.seq ?_
  refine TC.region ?_
  refine S.q rfl rfl (Qt.assign (by conv => lhs; whnf)) ?_
  refine S.nil ?_
  refine TC.seq ?_
  refine TC.seq ?_
  refine TC.region ?_
  refine S.q rfl rfl (Qt.move (by conv => lhs; whnf)) ?_
  refine S.q rfl rfl (Qt.eqp_none Try.underlying38 rfl) ?_
  refine S.nil ?_
  refine S.if_t rfl ?_
  refine TC.seq ?_
  refine TC.region ?_
  refine S.q rfl rfl (Qt.assign (by conv => lhs; whnf)) ?_
  refine S.nil ?_
  refine TC.ret ?_
  refine finQ.ret (RVs.tmp (by conv => lhs; whnf) RVs.nil) (Sub.nil _) ?_
  exact ⟨rfl, rfl⟩
set_option maxHeartbeats 400000 in
theorem all_nil_walk (w0 : World) :
    Calls Try.prog 27 #[.pointer none] w0 (Post w0 [] fun v L => ∃ b, v = .func (.func 40) #[] #[.pointer (some ⟨b, 0, none⟩)] ∧ L = [Blk b 38 [.pointer none]]) := by
  refine Calls.of (L := []) (n := 4) (rs := [.tmp 2]) Try.func27 rfl rfl rfl (Nat.le_of_ble_eq_true rfl) (Sat.nil _) ?_
  refine TC.seq ?_
  refine TC.region ?_
  refine S.opS rfl rfl (OpV.box (by conv => lhs; whnf) (fun b1 => ?_))
  refine S.q rfl rfl (Qt.assign (by conv => lhs; whnf)) ?_
  refine S.nil ?_
  refine TC.seq ?_
  refine TC.region ?_
  refine S.q rfl rfl (Qt.makeFuncL (fs := []) (cs := [.pointer (some ⟨b1, 0, none⟩)]) rfl rfl) ?_
  refine S.q rfl rfl (Qt.assign (by conv => lhs; whnf)) ?_
  refine S.nil ?_
  refine TC.ret ?_
  refine finQ.ret (RVs.tmp (by conv => lhs; whnf) RVs.nil) (Sub.refl _) ?_
  exact ⟨_, rfl, rfl⟩
set_option maxHeartbeats 400000 in
theorem gen_nil_walk (b l : Nat) (L0 : List Assn) (w0 : World) (h0 : Sat w0 L0) (hB : Ro w0 (fps L0) (Blk b 38 [.pointer none])) :
    Calls Try.prog 40 #[.func (.yield l) #[] #[], .pointer (some ⟨b, 0, none⟩)] w0 (Post w0 (fps L0) fun v L => L = L0) := by
  refine Calls.of (L := L0) (n := 29) (rs := []) Try.func40 rfl rfl rfl (Nat.le_of_ble_eq_true rfl) (h0) ?_
  refine TC.seq ?_
  refine TC.seq ?_
  refine TC.region ?_
  refine S.q rfl rfl (Qt.load rfl (Ld.one (Has.ro hB) Try.one38 rfl)) ?_
  refine S.q rfl rfl (Qt.eqp_none Try.underlying38 rfl) ?_
  refine S.nil ?_
  refine S.if_t rfl ?_
  refine TC.ret ?_
  refine finQ.ret RVs.nil (Sub.refl _) ?_
  rfl
theorem gen_nil (b : Nat) (w : World) (L0 : List Assn) (h0 : Sat w L0) (hB : Ro w (fps L0) (Blk b 38 [.pointer none])) : Gen Try.prog 40 #[.pointer (some ⟨b, 0, none⟩)] (fun x : Empty => nomatch x) (fun _ => True) (fun _ => False) w L0 := fun l J hJ _ =>
  (gen_nil_walk b l L0 w h0 hB).mono fun e w' ⟨v, L', h1, h2, h3⟩ => ⟨v, L', h1, h2, by subst h3; exact .inl ⟨[], trivial, hJ⟩⟩

set_option maxHeartbeats 400000 in
theorem do_nil_walk (k : Int) (v1 v2 : Value) (f : Nat) (m : Int) (w0 : World) :
    Calls Try.prog 16 #[.pointer none, .agg #[.int .i64 k, v1, v2, .int .u64 (f : Int), .int .i64 m]] w0 (Post w0 [] fun v L => (∃ x, v = .tuple #[x, .iface 42 (.int .i64 ((11 : Nat) : Int))]) ∧ L = []) := by
  refine Calls.of (L := []) (n := 46) (rs := [.tmp 4, .tmp 5]) Try.func16 rfl rfl rfl (Nat.le_of_ble_eq_true rfl) (Sat.nil _) ?_
  refine TC.seq ?_
  refine TC.region ?_
  refine S.opS rfl rfl (OpV.box (by conv => lhs; whnf) (fun b3 => ?_))
  refine S.q rfl rfl (Qt.assign (by conv => lhs; whnf)) ?_
  refine S.q rfl rfl (Qt.assign (by conv => lhs; whnf)) ?_
  refine S.nil ?_
  refine TC.seq ?_
  refine TC.seq ?_
  refine TC.region ?_
  refine S.q rfl rfl (Qt.field Try.underlying26 rfl Try.cells3 rfl) ?_
  refine S.q rfl rfl (Qt.load rfl (Ld.one (Has.at 0 rfl) Try.one3 rfl)) ?_
  refine S.q rfl rfl (Qt.conv_wrap (k := k) Try.underlying3 Try.underlying46 rfl) ?_
  refine S.q rfl rfl (Qt.rem (b := 5) rfl rfl (by omega)) ?_
  refine S.nil ?_
  refine TC.block ?_
  refine TC.seq ?_
  refine TC.region ?_
  refine S.dec rfl rfl (Qt.eq (b := 0) rfl rfl) (fun h11 => ?_) (fun h11 => ?_)
  · refine S.q rfl rfl (Qt.assign (by conv => lhs; whnf)) ?_
    refine S.nil ?_
    refine S.if_t rfl ?_
    refine TC.seq ?_
    refine TC.region ?_
    refine S.q rfl rfl (Qt.move (by conv => lhs; whnf)) ?_
    refine S.q rfl rfl (Qt.field Try.underlying26 rfl Try.cells22 rfl) ?_
    refine S.q rfl rfl (Qt.load rfl (Ld.one (Has.at 0 rfl) Try.one22 rfl)) ?_
    refine S.q rfl rfl (Qt.field Try.underlying26 rfl Try.cells23 rfl) ?_
    refine S.q rfl rfl (Qt.load rfl (Ld.one (Has.at 0 rfl) Try.one23 rfl)) ?_
    refine S.opS rfl rfl (OpV.con0 Try.ent23 rfl (fun w hw => Calls.ret (write_nil_walk v1 v2 w)) ?_)
    refine S.q rfl rfl (Qt.assign (by conv => lhs; whnf)) ?_
    refine S.q rfl rfl (Qt.assign (by conv => lhs; whnf)) ?_
    refine S.nil ?_
    refine TC.ret ?_
    refine finQ.ret (RVs.tmp (by conv => lhs; whnf) (RVs.tmp (by conv => lhs; whnf) RVs.nil)) (Sub.nil _) ?_
    exact ⟨⟨_, rfl⟩, rfl⟩
  · refine S.q rfl rfl (Qt.assign (by conv => lhs; whnf)) ?_
    refine S.nil ?_
    refine S.if_f rfl ?_
    refine TC.seq ?_
    refine TC.region ?_
    refine S.dec rfl rfl (Qt.eq (b := 1) rfl rfl) (fun h19 => ?_) (fun h19 => ?_)
    · refine S.q rfl rfl (Qt.assign (by conv => lhs; whnf)) ?_
      refine S.nil ?_
      refine S.if_t rfl ?_
      refine TC.seq ?_
      refine TC.region ?_
      refine S.q rfl rfl (Qt.move (by conv => lhs; whnf)) ?_
      refine S.q rfl rfl (Qt.field Try.underlying26 rfl Try.cells22 rfl) ?_
      refine S.q rfl rfl (Qt.load rfl (Ld.one (Has.at 0 rfl) Try.one22 rfl)) ?_
      refine S.opS rfl rfl (OpV.con0 Try.ent30 rfl (fun w hw => Calls.ret (trim_nil_walk v1 v2 w)) ?_)
      refine S.q rfl rfl (Qt.assign (by conv => lhs; whnf)) ?_
      refine S.q rfl rfl (Qt.assign (by conv => lhs; whnf)) ?_
      refine S.nil ?_
      refine TC.ret ?_
      refine finQ.ret (RVs.tmp (by conv => lhs; whnf) (RVs.tmp (by conv => lhs; whnf) RVs.nil)) (Sub.nil _) ?_
      exact ⟨⟨_, rfl⟩, rfl⟩
    · refine S.q rfl rfl (Qt.assign (by conv => lhs; whnf)) ?_
      refine S.nil ?_
      refine S.if_f rfl ?_
      refine TC.seq ?_
      refine TC.region ?_
      refine S.dec rfl rfl (Qt.eq (b := 2) rfl rfl) (fun h25 => ?_) (fun h25 => ?_)
      · refine S.q rfl rfl (Qt.assign (by conv => lhs; whnf)) ?_
        refine S.nil ?_
        refine S.if_t rfl ?_
        refine TC.seq ?_
        refine TC.region ?_
        refine S.q rfl rfl (Qt.move (by conv => lhs; whnf)) ?_
        refine S.q rfl rfl (Qt.field Try.underlying26 rfl Try.cells22 rfl) ?_
        refine S.q rfl rfl (Qt.load rfl (Ld.one (Has.at 0 rfl) Try.one22 rfl)) ?_
        refine S.opS rfl rfl (OpV.con0 Try.ent24 rfl (fun w hw => Calls.ret (read_nil_walk v1 v2 w)) ?_)
        refine S.q rfl rfl (Qt.extract rfl rfl) ?_
        refine S.q rfl rfl (Qt.extract rfl rfl) ?_
        refine S.q rfl rfl (Qt.assign (by conv => lhs; whnf)) ?_
        refine S.q rfl rfl (Qt.assign (by conv => lhs; whnf)) ?_
        refine S.nil ?_
        refine TC.ret ?_
        refine finQ.ret (RVs.tmp (by conv => lhs; whnf) (RVs.tmp (by conv => lhs; whnf) RVs.nil)) (Sub.nil _) ?_
        exact ⟨⟨_, rfl⟩, rfl⟩
      · refine S.q rfl rfl (Qt.assign (by conv => lhs; whnf)) ?_
        refine S.nil ?_
        refine S.if_f rfl ?_
        refine TC.seq ?_
        refine TC.region ?_
        refine S.dec rfl rfl (Qt.eq (b := 3) rfl rfl) (fun h33 => ?_) (fun h33 => ?_)
        · refine S.q rfl rfl (Qt.assign (by conv => lhs; whnf)) ?_
          refine S.nil ?_
          refine S.if_t rfl ?_
          refine TC.seq ?_
          refine TC.region ?_
          refine S.q rfl rfl (Qt.move (by conv => lhs; whnf)) ?_
          refine S.q rfl rfl (Qt.field Try.underlying26 rfl Try.cells24 rfl) ?_
          refine S.q rfl rfl (Qt.load rfl (Ld.one (Has.at 0 rfl) Try.one24 rfl)) ?_
          refine S.q rfl rfl (Qt.field Try.underlying26 rfl Try.cells3 rfl) ?_
          refine S.q rfl rfl (Qt.load rfl (Ld.one (Has.at 0 rfl) Try.one3 rfl)) ?_
          refine S.opS rfl rfl (OpV.con0 Try.ent25 rfl (fun w hw => Calls.ret (span_nil_walk _ _ w)) ?_)
          refine S.q rfl rfl (Qt.extract rfl rfl) ?_
          refine S.q rfl rfl (Qt.extract rfl rfl) ?_
          refine S.q rfl rfl (Qt.assign (by conv => lhs; whnf)) ?_
          refine S.q rfl rfl (Qt.assign (by conv => lhs; whnf)) ?_
          refine S.nil ?_
          refine TC.ret ?_
          refine finQ.ret (RVs.tmp (by conv => lhs; whnf) (RVs.tmp (by conv => lhs; whnf) RVs.nil)) (Sub.nil _) ?_
          exact ⟨⟨_, rfl⟩, rfl⟩
        · refine S.q rfl rfl (Qt.assign (by conv => lhs; whnf)) ?_
          refine S.nil ?_
          refine S.if_f rfl ?_
          refine TC.skip ?_
          refine TC.seq ?_
          refine TC.region ?_
          refine S.q rfl rfl (Qt.move (by conv => lhs; whnf)) ?_
          refine S.q rfl rfl (Qt.field Try.underlying26 rfl Try.cells24 rfl) ?_
          refine S.q rfl rfl (Qt.load rfl (Ld.one (Has.at 0 rfl) Try.one24 rfl)) ?_
          refine S.opS rfl rfl (OpV.con0 Try.ent22 rfl (fun w hw => Calls.ret (resize_nil_walk _ v1 w)) ?_)
          refine S.q rfl rfl (Qt.assign (by conv => lhs; whnf)) ?_
          refine S.q rfl rfl (Qt.assign (by conv => lhs; whnf)) ?_
          refine S.nil ?_
          refine TC.ret ?_
          refine finQ.ret (RVs.tmp (by conv => lhs; whnf) (RVs.tmp (by conv => lhs; whnf) RVs.nil)) (Sub.nil _) ?_
          exact ⟨⟨_, rfl⟩, rfl⟩
set_option maxHeartbeats 400000 in
theorem long_walk (A : Option Addr) (c : Nat) (l : List Act5) (w0 : World) (hA : Ro w0 [] (SlA A (acs l))) (hl : l.length ≤ 9223372036854775807) :
    Calls Try.prog 13 #[.slice A l.length c] w0 (Post w0 [] fun v L => v = .bool (longB l) ∧ L = []) := by
  refine Calls.of (L := []) (n := 29) (rs := [.tmp 2]) Try.func13 rfl rfl rfl (Nat.le_of_ble_eq_true rfl) (Sat.nil _) ?_
  refine TC.seq ?_
  refine TC.region ?_
  refine S.q rfl rfl (Qt.assign (by conv => lhs; whnf)) ?_
  refine S.nil ?_
  refine TC.seq ?_
  refine TC.region ?_
  refine S.q rfl rfl (Qt.assign (by conv => lhs; whnf)) ?_
  refine S.nil ?_
  refine TC.seq ?_
  refine TC.seq ?_
  refine TC.region ?_
  refine S.q rfl rfl (Qt.move (by conv => lhs; whnf)) ?_
  refine S.q rfl rfl (Qt.len_slice Try.underlying36 rfl) ?_
  refine S.q rfl rfl (Qt.move (by conv => lhs; whnf)) ?_
  refine S.nil ?_
  refine TC.block ?_
  refine TC.loop (γ := Nat) [9, 10, 11, 5, 12, 13, 14, 15, 16, 17, 18, 19, 20, 3, 21, 8] (fun k => [(3, .int .i64 (longS (l.take k))), (8, .int .i64 (k : Int))]) (fun k => []) (fun k => k ≤ l.length) (fun k => l.length - k) (0)
    (by omega) ⟨Out.refl _ _, (List.forall_mem_cons.2 ⟨rfl, (List.forall_mem_cons.2 ⟨rfl, (fun _ h => nomatch h)⟩)⟩)⟩ (Sub.nil _) ?_
  rintro k u hk
  refine TC.seq ?_
  refine TC.region ?_
  refine S.dec rfl rfl (Qt.lt rfl rfl) (fun h9 => ?_) (fun h9 => ?_)
  · refine S.nil ?_
    refine TC.seq ?_
    refine S.if_t rfl ?_
    refine TC.skip ?_
    refine TC.seq ?_
    refine TC.block ?_
    refine TC.seq ?_
    refine TC.region ?_
    refine S.q rfl rfl (Qt.index Try.underlying36 Try.cells26 rfl rfl (by omega) (Has.ro hA) (by rw [acs_length]; omega)) ?_
    refine S.q rfl rfl (Qt.load rfl (Ld.slr (vs := acell (l.getD k act0)) (Has.ro hA) Try.row26 Try.cells26 (Nat.succ_pos _) (acs_at (by omega) rfl))) ?_
    refine S.opS rfl rfl (OpV.alloc Try.zero26 (fun b5 => ?_))
    refine S.opN rfl (OpV.storeV0 rfl (by conv => lhs; whnf) (by exact (show _ = some (acell (l.getD k act0)).length from Try.cells26)) (by rfl) (by rfl) ?_)
    refine S.nil ?_
    refine TC.region ?_
    refine S.q rfl rfl (Qt.move (by conv => lhs; whnf)) ?_
    refine S.q rfl rfl (Qt.field Try.underlying26 rfl Try.cells22 rfl) ?_
    refine S.q rfl rfl (Qt.load rfl (Ld.one (Has.at 0 rfl) Try.one22 rfl)) ?_
    refine S.q rfl rfl (Qt.len_slice Try.underlying22 rfl) ?_
    refine S.q rfl rfl (Qt.field Try.underlying26 rfl Try.cells23 rfl) ?_
    refine S.q rfl rfl (Qt.load rfl (Ld.one (Has.at 0 rfl) Try.one23 rfl)) ?_
    refine S.q rfl rfl (Qt.len_slice Try.underlying23 rfl) ?_
    refine S.q rfl rfl (Qt.addw rfl rfl) ?_
    refine S.q rfl rfl (Qt.addw rfl rfl) ?_
    refine S.q rfl rfl (Qt.assign (by conv => lhs; whnf)) ?_
    refine S.nil ?_
    refine TC.region ?_
    refine S.q rfl rfl (Qt.add (b := 1) rfl rfl (by simp only [kmax]; omega)) ?_
    refine S.q rfl rfl (Qt.move (by conv => lhs; whnf)) ?_
    refine S.nil ?_
    refine ⟨k + 1, ?_, ?_, ⟨?_, (List.forall_mem_cons.2 ⟨congrArg (fun z => Value.int .i64 z) (longS_take l k (by omega)).symm, (List.forall_mem_cons.2 ⟨rfl, (fun _ h => nomatch h)⟩)⟩)⟩, Sub.nil _⟩
    · show _ ≤ _; omega
    · show _ < _; dsimp only; omega
    repeat (first | exact Out.refl _ _ | refine Out.put rfl ?_ | refine Out.puts rfl ?_ | refine Out.scr ?_ | refine Out.scr' rfl ?_)
  · refine S.nil ?_
    refine TC.seq ?_
    refine S.if_f rfl ?_
    refine TC.exit ?_
    refine TC.seq ?_
    refine TC.region ?_
    refine S.q rfl rfl (Qt.move (by conv => lhs; whnf)) ?_
    refine S.q rfl rfl (Qt.len_slice Try.underlying36 rfl) ?_
    refine S.dec rfl rfl (Qt.gt (b := 40) rfl rfl) (fun h24 => ?_) (fun h24 => ?_)
    · refine S.q rfl rfl (Qt.move (by conv => lhs; whnf)) ?_
      refine S.pass rfl rfl ?_
      refine S.pass rfl rfl ?_
      refine S.q rfl rfl (Qt.pick_t rfl (by conv => lhs; whnf)) ?_
      refine S.q rfl rfl (Qt.assign (by conv => lhs; whnf)) ?_
      refine S.nil ?_
      refine TC.ret ?_
      refine finQ.ret (RVs.tmp (by conv => lhs; whnf) RVs.nil) (Sub.nil _) ?_
      exact ⟨by simp [longB, pack, h24], rfl⟩
    · refine S.q rfl rfl (Qt.move (by conv => lhs; whnf)) ?_
      refine S.qg rfl rfl rfl (Qt.move (by conv => lhs; whnf)) ?_
      refine S.decg rfl rfl rfl (Qt.gti rfl rfl) (fun h27 => ?_) (fun h27 => ?_)
      · refine S.q rfl rfl (Qt.pick_f rfl (by conv => lhs; whnf)) ?_
        refine S.q rfl rfl (Qt.assign (by conv => lhs; whnf)) ?_
        refine S.nil ?_
        refine TC.ret ?_
        refine finQ.ret (RVs.tmp (by conv => lhs; whnf) RVs.nil) (Sub.nil _) ?_
        obtain rfl : k = l.length := by omega
        rw [List.take_length] at h27
        exact ⟨by simp [longB, pack, h27], rfl⟩
      · refine S.q rfl rfl (Qt.pick_f rfl (by conv => lhs; whnf)) ?_
        refine S.q rfl rfl (Qt.assign (by conv => lhs; whnf)) ?_
        refine S.nil ?_
        refine TC.ret ?_
        refine finQ.ret (RVs.tmp (by conv => lhs; whnf) RVs.nil) (Sub.nil _) ?_
        obtain rfl : k = l.length := by omega
        rw [List.take_length] at h27
        exact ⟨by simp [longB, pack, h24, h27], rfl⟩
set_option maxHeartbeats 400000 in
theorem same_nil_walk (w0 : World) :
    Calls Try.prog 21 #[.pointer none, .pointer none] w0 (Post w0 [] fun v L => v = .bool true ∧ L = []) := by
  refine Calls.of (L := []) (n := 41) (rs := [.cell 4 4]) Try.func21 rfl rfl rfl (Nat.le_of_ble_eq_true rfl) (Sat.nil _) ?_
  refine TC.seq ?_
  refine TC.region ?_
  refine S.opS rfl rfl (OpV.box (by conv => lhs; whnf) (fun b3 => ?_))
  refine S.opS rfl rfl (OpV.alloc Try.zero4 (fun b4 => ?_))
  refine S.nil ?_
  refine TC.seq ?_
  refine TC.seq ?_
  refine S.draw Try.mixed (Sub.keep _ (Sub.keep _ (Sub.nil []))) ?_
  refine D.q rfl (by kernel_rfl) (by kernel_rfl) rfl rfl (Qt.move (by conv => lhs; whnf)) ?_
  refine D.c rfl (by kernel_rfl) (by kernel_rfl) rfl rfl (Det.con0 Try.ent26 rfl (fun w hw => Calls.ret (blocks_nil_walk w))) ?_
  refine D.q rfl (by kernel_rfl) (by kernel_rfl) rfl rfl (Qt.load rfl (Ld.one (Has.at 1 rfl) Try.one38 rfl)) ?_
  refine D.c rfl (by kernel_rfl) (by kernel_rfl) rfl rfl (Det.con0 Try.ent26 rfl (fun w hw => Calls.ret (blocks_nil_walk w))) ?_
  refine D.q rfl (by kernel_rfl) (by kernel_rfl) rfl rfl (Qt.dF (Qt.ne rfl rfl) (by decide)) ?_
  refine D.q rfl (by kernel_rfl) (by kernel_rfl) rfl rfl (Qt.move (by conv => lhs; whnf)) ?_
  refine D.qg rfl (by kernel_rfl) (by kernel_rfl) rfl rfl rfl (Qt.move (by conv => lhs; whnf)) ?_
  refine D.cg rfl (by kernel_rfl) (by kernel_rfl) rfl rfl rfl (Det.con0 Try.ent28 rfl (fun w hw => Calls.ret (len_nil_walk w))) ?_
  refine D.qg rfl (by kernel_rfl) (by kernel_rfl) rfl rfl rfl (Qt.load rfl (Ld.one (Has.at 1 rfl) Try.one38 rfl)) ?_
  refine D.cg rfl (by kernel_rfl) (by kernel_rfl) rfl rfl rfl (Det.con0 Try.ent28 rfl (fun w hw => Calls.ret (len_nil_walk w))) ?_
  refine D.qg rfl (by kernel_rfl) (by kernel_rfl) rfl rfl rfl (Qt.dF (Qt.ne rfl rfl) (by decide)) ?_
  refine D.q rfl (by kernel_rfl) (by kernel_rfl) rfl rfl (Qt.pick_f rfl (by conv => lhs; whnf)) ?_
  refine D.done (Sub.keep _ (Sub.keep _ (Sub.nil []))) rfl ?_
  refine S.if_f rfl ?_
  refine TC.skip ?_
  refine TC.seq ?_
  refine TC.seq ?_
  refine TC.region ?_
  refine S.q rfl rfl (Qt.move (by conv => lhs; whnf)) ?_
  refine S.opS rfl rfl (OpV.con (Pre := []) (R := _) Try.ent27 rfl (List.Perm.refl _) (fun w hw => all_nil_walk w) ?_)
  rintro v L' ⟨b27, rfl, rfl⟩
  refine S.nil ?_
  refine TC.block ?_
  refine TC.rangeFunc (α := Empty) encE (fun _ => True) (fun _ => False) (fun _ L' => L' = []) (fun _ _ _ => False) (L0 := []) rfl rfl Try.ent40 rfl (fun x => nomatch x) (List.Perm.refl _) rfl (fun w L' hw => gen_nil b27 w L' hw.sat.left (Ro.of_rest hw (List.mem_cons_self ..))) (fun _ _ _ _ _ _ x => nomatch x) ?_ (fun _ _ _ _ h => h.elim)
  rintro D xs L' - rfl
  refine TC.seq ?_
  refine TC.region ?_
  refine S.opN rfl (OpV.storeV2 rfl (by conv => lhs; whnf) (by exact Try.cells4) (by rfl) (by rfl) ?_)
  refine S.nil ?_
  refine TC.ret ?_
  refine finQ.retM rfl (Sub.refl _) (RVs.cell rfl (Ld.one (Has.at 1 rfl) Try.one4 rfl) RVs.nil) (Sub.nil _) ?_
  exact ⟨rfl, rfl⟩
set_option maxHeartbeats 400000 in
theorem modelNil_walk (k : Int) (A : Option Addr) (n c : Nat) (B : Option Addr) (m d f : Nat) (q : Int) (w0 : World) :
    Calls Try.prog 6 #[.agg #[.int .i64 k, .slice A n c, .slice B m d, .int .u64 (f : Int), .int .i64 q]] w0 (Post w0 [] fun v L => v = .bool true ∧ L = []) := by
  refine Calls.of (L := []) (n := 42) (rs := [.cell 2 4]) Try.func6 rfl rfl rfl (Nat.le_of_ble_eq_true rfl) (Sat.nil _) ?_
  refine TC.seq ?_
  refine TC.region ?_
  refine S.opS rfl rfl (OpV.box (by conv => lhs; whnf) (fun b1 => ?_))
  refine S.opS rfl rfl (OpV.alloc Try.zero4 (fun b2 => ?_))
  refine S.nil ?_
  refine TC.seq ?_
  refine TC.seq ?_
  refine TC.region ?_
  refine S.opS rfl rfl (OpV.con0 Try.ent7 rfl (fun w hw => Calls.ret (alive_walk w)) ?_)
  refine S.q rfl rfl (Qt.not_t rfl) ?_
  refine S.nil ?_
  refine S.if_f rfl ?_
  refine TC.skip ?_
  refine TC.seq ?_
  refine TC.seq ?_
  refine TC.region ?_
  refine S.q rfl rfl (Qt.load rfl (Ld.all (Has.at 1 rfl) Try.row26 Try.cells26)) ?_
  refine S.opS rfl rfl (OpV.slice1 (v := .agg #[.int .i64 k, .slice A n c, .slice B m d, .int .u64 (f : Int), .int .i64 q]) Try.underlying36 Try.elem26 (by decide) rfl rfl (fun b9 => ?_))
  refine S.opS rfl rfl (OpV.con0 Try.ent13 rfl (fun w hw => Calls.ret (long_walk (some ⟨b9, 0, none⟩) 1 [⟨k, A, n, c, B, m, d, f, q⟩] w (Rd.blk (Rd.at 0 rfl) w hw) (Nat.le_of_ble_eq_true rfl))) ?_)
  refine S.nil ?_
  refine TC.ifb rfl (fun b10 => ?_) (fun b10 => ?_)
  · refine TC.seq ?_
    refine TC.region ?_
    refine S.opN rfl (OpV.storeV1 rfl (by conv => lhs; whnf) (by exact Try.cells4) (by rfl) (by rfl) ?_)
    refine S.nil ?_
    refine TC.ret ?_
    refine finQ.ret (RVs.cell rfl (Ld.one (Has.at 1 rfl) Try.one4 rfl) RVs.nil) (Sub.nil _) ?_
    exact ⟨rfl, rfl⟩
  · refine TC.skip ?_
    refine TC.seq ?_
    refine TC.region ?_
    refine S.q rfl rfl (Qt.assign (by conv => lhs; whnf)) ?_
    refine S.nil ?_
    refine TC.seq ?_
    refine TC.seq ?_
    refine TC.region ?_
    refine S.q rfl rfl (Qt.move (by conv => lhs; whnf)) ?_
    refine S.opS rfl rfl (OpV.con (Pre := []) (R := _) Try.ent27 rfl (List.Perm.refl _) (fun w hw => all_nil_walk w) ?_)
    rintro v L' ⟨b27, rfl, rfl⟩
    refine S.nil ?_
    refine TC.block ?_
    refine TC.rangeFunc (α := Empty) encE (fun _ => True) (fun _ => False) (fun _ L' => L' = []) (fun _ _ _ => False) (L0 := []) rfl rfl Try.ent40 rfl (fun x => nomatch x) (List.Perm.refl _) rfl (fun w L' hw => gen_nil b27 w L' hw.sat.left (Ro.of_rest hw (List.mem_cons_self ..))) (fun _ _ _ _ _ _ x => nomatch x) ?_ (fun _ _ _ _ h => h.elim)
    rintro D xs L' - rfl
    refine TC.seq ?_
    refine TC.region ?_
    refine S.q rfl rfl (Qt.move (by conv => lhs; whnf)) ?_
    refine S.q rfl rfl (Qt.load rfl (Ld.all (Has.at 4 rfl) Try.row26 Try.cells26)) ?_
    refine S.opS rfl rfl (OpV.con (Pre := []) (R := _) Try.ent16 rfl (List.Perm.refl _) (fun w hw => do_nil_walk k (.slice A n c) (.slice B m d) f q w) ?_)
    rintro v L' ⟨⟨x18, rfl⟩, rfl⟩
    refine S.q rfl rfl (Qt.move (by conv => lhs; whnf)) ?_
    refine S.q rfl rfl (Qt.extract rfl rfl) ?_
    refine S.q rfl rfl (Qt.extract rfl rfl) ?_
    refine S.q rfl rfl (Qt.assign (by conv => lhs; whnf)) ?_
    refine S.q rfl rfl (Qt.assign (by conv => lhs; whnf)) ?_
    refine S.nil ?_
    refine TC.seq ?_
    refine TC.region ?_
    refine S.q rfl rfl (Qt.move (by conv => lhs; whnf)) ?_
    refine S.opS rfl rfl (OpV.con0 Try.ent15 rfl (fun w hw => Calls.ret (is_walk 11 11 w)) ?_)
    refine S.q rfl rfl (Qt.move (by conv => lhs; whnf)) ?_
    refine S.qg rfl rfl rfl (Qt.move (by conv => lhs; whnf)) ?_
    refine S.opg rfl rfl rfl (OpV.con0 Try.ent26 rfl (fun w hw => Calls.ret (blocks_nil_walk w)) ?_)
    refine S.qg rfl rfl rfl (Qt.dT (Qt.eq (b := 0) rfl rfl) (rfl)) ?_
    refine S.q rfl rfl (Qt.pick_t rfl (by conv => lhs; whnf)) ?_
    refine S.q rfl rfl (Qt.move (by conv => lhs; whnf)) ?_
    refine S.qg rfl rfl rfl (Qt.move (by conv => lhs; whnf)) ?_
    refine S.opg rfl rfl rfl (OpV.con0 Try.ent28 rfl (fun w hw => Calls.ret (len_nil_walk w)) ?_)
    refine S.qg rfl rfl rfl (Qt.dT (Qt.eq (b := 0) rfl rfl) (rfl)) ?_
    refine S.q rfl rfl (Qt.pick_t rfl (by conv => lhs; whnf)) ?_
    refine S.q rfl rfl (Qt.move (by conv => lhs; whnf)) ?_
    refine S.qg rfl rfl rfl (Qt.move (by conv => lhs; whnf)) ?_
    refine S.opg rfl rfl rfl (OpV.con0 Try.ent19 rfl (fun w hw => Calls.ret (copy_nil_walk w)) ?_)
    refine S.qg rfl rfl rfl (Qt.eqp_none Try.underlying38 rfl) ?_
    refine S.q rfl rfl (Qt.pick_t rfl (by conv => lhs; whnf)) ?_
    refine S.q rfl rfl (Qt.move (by conv => lhs; whnf)) ?_
    refine S.qg rfl rfl rfl (Qt.move (by conv => lhs; whnf)) ?_
    refine S.opg rfl rfl rfl (OpV.con0 Try.ent21 rfl (fun w hw => Calls.ret (same_nil_walk w)) ?_)
    refine S.q rfl rfl (Qt.pick_t rfl (by conv => lhs; whnf)) ?_
    refine S.opN rfl (OpV.storeV3 rfl (by conv => lhs; whnf) (by exact Try.cells4) (by rfl) (by rfl) ?_)
    refine S.nil ?_
    refine TC.ret ?_
    refine finQ.retM rfl (Sub.refl _) (RVs.cell rfl (Ld.one (Has.at 2 rfl) Try.one4 rfl) RVs.nil) (Sub.nil _) ?_
    exact ⟨rfl, rfl⟩
end Go.Proofs.Ytaoicbjgkghnnaa
