/- Walks: the document's texts of paths, pairs of two sources -/
import Derived.Test.YtgdjcmehlhebdaaGreatDoorY7
set_option maxHeartbeats 25600000
namespace Go.Proofs.YtgdjcmehlhebdaaGreatDoor
open _root_.Go.Proofs.Tryz
open Go.E
set_option maxRecDepth 4000
theorem zrU (x : H32) (i : Nat) (A : OAd) (c : Nat) (ps : List H32) (hi : i < 18446744073709551616) (hf : zdk i ps.length) (w0 : World) (hR : Ro w0 [] (SlA A (hcs ps))) (hT : Tabs 2 0 w0 []) :
  Calls prog 157 #[.int .u64 (i : Int), hv x, .slice A ps.length c] w0 (Post w0 [] fun v L => TxR (some (zix x i ps)) v L) := by
 refine co 50 [.tmp 6, .tmp 7] func157 ?_
 have hf1 := hf.1
 refine gw ?_
 intro b4
 refine gw ?_
 refine S.c0 J192 (fun w hw => ztg i ps.length hi hf w) (gw ?_)
 refine TC.ownNil 112 1 ?_
 refine TC.manyNil ?_
 refine TC.loop (γ := Nat × OAd × List Tx × Nat) [16, 17, 18, 19, 22, 23, 24, 25, 26, 27, 28, 29, 10, 30, 31, 32, 33, 34, 35, 36, 37, 38, 39, 40, 41, 42, 43, 44, 8, 45, 46, 47, 48, 0, 20, 21, 9] (fun g => [(9, .int .i64 ((g.1 : Nat) : Int)), (0, .int .u64 ((i / 2 ^ g.1 : Nat) : Int)), (8, .slice g.2.1 g.2.2.1.length g.2.2.2)]) (fun g => [OwnA 112 1 g.2.1 (g.2.2.1).length g.2.2.2 ((g.2.2.1).flatMap txL), Many ((g.2.2.1).map zaN), Blk b4 49 (hvl (zaz x i ps g.1))]) (fun g => g.1 ≤ ps.length ∧ g.2.2.1.map (fun t => t.2.2) = (List.range g.1).map (zc2 x i ps)) (fun g => ps.length - g.1) ((0, none, [], 0))
  ⟨Nat.zero_le _, rfl⟩ ⟨Out.refl _ _, (List.forall_mem_cons.2 ⟨rfl, (List.forall_mem_cons.2 ⟨(by show Value.int .u64 (i : Int) = Value.int .u64 ((i / 2 ^ 0 : Nat) : Int); rw [Nat.pow_zero, Nat.div_one]), ag⟩)⟩)⟩ (Sub.trans (sk sr) (Sub.of_perm pm1)) ?_
 rintro ⟨k, O, tt, d⟩ u ⟨hk, htt⟩
 dsimp only at hk htt
 have htl : tt.length = k := by have := congrArg List.length htt; simpa using this
 show TC _ _ _ (puts [(9, .int .i64 (k : Int)), (0, .int .u64 ((i / 2 ^ k : Nat) : Int)), (8, .slice O tt.length d)] (scr _ u _)) [OwnA 112 1 O (tt).length d ((tt).flatMap txL), Many ((tt).map zaN), Blk b4 49 (hvl (zaz x i ps k))]
 refine gw ?_
 refine S.dec rfl rfl (Qt.lt rfl rfl) (fun h19 => gw ?_) (fun h19 => gw ?_)
 ·refine dw ([], [7]) (gw ?_)
  refine D.qY 5 rfl (Qt.index uT cT rfl rfl ow (Has.ro hR) (by rw [zah]; omega)) ?_
  refine D.qY 6 rfl (Qt.load rfl (Ld.hashS (Has.ro hR) k rT ce49 ow rfl)) ?_
  refine D.nZ 7 rfl J126 (fun w hw => zej (k + 1) ow (zaz x i ps k) (ps.getD k zac) w) ?_
  rintro v L' ⟨Oa, da, rfl, rfl⟩
  refine gw ?_
  refine D.fi (gw ?_)
  refine S.r (Qt.rem (b := 2) rfl rfl ow) ?_
  refine S.dec rfl rfl (Qt.eq (b := 1) rfl rfl) (fun h32 => gw ?_) (fun h32 => gw ?_)
  ·refine dw ([], [7]) (gw ?_)
   refine D.qY 4 rfl (Qt.index uT cT rfl rfl ow (Has.ro hR) (by rw [zah]; omega)) ?_
   refine D.qY 5 rfl (Qt.load rfl (Ld.hashS (Has.ro hR) k rT ce49 ow rfl)) (gw ?_)
   refine D.nZ 7 rfl J126 (fun w hw => zej (k + 1) ow (ps.getD k zac) (zaz x i ps k) w) ?_
   rintro v L' ⟨Ob, db, rfl, rfl⟩
   refine gw ?_
   refine D.fi (gw ?_)
   refine TL.manyJoin (pc pm2) (gw ?_)
   refine S.o (OpV.slice1 (bytes := 24) (v := .slice Ob (zaM (k + 1) (ps.getD k zac) (zaz x i ps k)).length db) uT elem112 (by decide) rfl rfl (fun g43 => ?_))
   refine S.o (OpV.app3 (bytes := 24) (news := [.slice Ob (zaM (k + 1) (ps.getD k zac) (zaz x i ps k)).length db]) uT elem112 rfl rfl (Has.blk (cs := [.slice Ob (zaM (k + 1) (ps.getD k zac) (zaz x i ps k)).length db]) hz0) rfl (by intro u hu; rw [List.mem_singleton.1 hu]; rfl) (by simp only [maxLen]; omega) ow (fun O3 d3 => ?_))
   refine gw ?_
   refine S.c0 J57 (fun w hw => (by have q := Calls.ret (zeR Ob db (zaM (k + 1) (ps.getD k zac) (zaz x i ps k)) w (Rd.own (e := 5) (sz := 1) (Rd.many (A := OwnA 5 1 Ob (zaM (k + 1) (ps.getD k zac) (zaz x i ps k)).length db (zad (zaM (k + 1) (ps.getD k zac) (zaz x i ps k)))) (Rd.at 1 rfl) (List.mem_append.2 (.inr (List.mem_singleton.2 rfl)))) w hw) (by rw [zba]; decide) (hT.at hw)); rw [show shaH (zaM (k + 1) (ps.getD k zac) (zaz x i ps k)) = zaz x i ps (k + 1) from (zdL h32).symm] at q; exact q : Calls prog 57 #[.slice Ob (zaM (k + 1) (ps.getD k zac) (zaz x i ps k)).length db] w (Ret w (hv (zaz x i ps (k + 1)))))) ?_
   refine S.opN rfl (OpV.storeV4 (v := hv (zaz x i ps (k + 1))) rfl rfl (zab ce49) (zai _) (by rw [zaf, zag]) ?_)
   refine gw ?_
   refine S.r (Qt.as (Qt.quo (b := 2) rfl rfl ow (by have := Nat.div_le_self i (2 ^ k); simp only [kmax]; omega)) (by rw [zay])) (gw ?_)
   refine ⟨(k + 1, O3, tt ++ [(Ob, db, zaM (k + 1) (ps.getD k zac) (zaz x i ps k))], d3), ?_, ?_, ⟨?_, (List.forall_mem_cons.2 ⟨rfl, (List.forall_mem_cons.2 ⟨rfl, (List.forall_mem_cons.2 ⟨(by show Value.slice O3 (tt.length + 1) d3 = Value.slice O3 (tt ++ [_]).length d3; rw [List.length_append]; rfl), (fun _ h => nomatch h)⟩)⟩)⟩)⟩, (by dsimp only; simp only [List.length_append, List.flatMap_append, List.map_append]; exact Sub.trans (sk (sk (sk (sd (sd sn0))))) (Sub.trans (sk (Sub.trans (sk (Sub.trans (sk sr) (Sub.of_perm pm2))) (Sub.of_perm pm1))) (Sub.of_perm pm3)))⟩
   ·exact ⟨by show _ ≤ _; dsimp only; omega, by dsimp only; rw [List.map_append, htt, List.range_succ, List.map_append, List.map_singleton, List.map_singleton]; unfold zc2; rw [if_pos h32]⟩
   ·show _ < _; dsimp only; omega
   exact outs
  ·refine TL.manyJoin (pc pm1) (gw ?_)
   refine S.o (OpV.slice1 (bytes := 24) (v := .slice Oa (zaM (k + 1) (zaz x i ps k) (ps.getD k zac)).length da) uT elem112 (by decide) rfl rfl (fun g43 => ?_))
   refine S.o (OpV.app2 (bytes := 24) (news := [.slice Oa (zaM (k + 1) (zaz x i ps k) (ps.getD k zac)).length da]) uT elem112 rfl rfl (Has.blk (cs := [.slice Oa (zaM (k + 1) (zaz x i ps k) (ps.getD k zac)).length da]) hz0) rfl (by intro u hu; rw [List.mem_singleton.1 hu]; rfl) (by simp only [maxLen]; omega) ow (fun O3 d3 => ?_))
   refine gw ?_
   refine S.c0 J57 (fun w hw => (by have q := Calls.ret (zeR Oa da (zaM (k + 1) (zaz x i ps k) (ps.getD k zac)) w (Rd.own (e := 5) (sz := 1) (Rd.many (A := OwnA 5 1 Oa (zaM (k + 1) (zaz x i ps k) (ps.getD k zac)).length da (zad (zaM (k + 1) (zaz x i ps k) (ps.getD k zac)))) (Rd.at 1 rfl) (List.mem_append.2 (.inr (List.mem_singleton.2 rfl)))) w hw) (by rw [zba]; decide) (hT.at hw)); rw [show shaH (zaM (k + 1) (zaz x i ps k) (ps.getD k zac)) = zaz x i ps (k + 1) from (zc7 h32).symm] at q; exact q : Calls prog 57 #[.slice Oa (zaM (k + 1) (zaz x i ps k) (ps.getD k zac)).length da] w (Ret w (hv (zaz x i ps (k + 1)))))) ?_
   refine S.opN rfl (OpV.storeV3 (v := hv (zaz x i ps (k + 1))) rfl rfl (zab ce49) (zai _) (by rw [zaf, zag]) ?_)
   refine gw ?_
   refine S.r (Qt.as (Qt.quo (b := 2) rfl rfl ow (by have := Nat.div_le_self i (2 ^ k); simp only [kmax]; omega)) (by rw [zay])) (gw ?_)
   refine ⟨(k + 1, O3, tt ++ [(Oa, da, zaM (k + 1) (zaz x i ps k) (ps.getD k zac))], d3), ?_, ?_, ⟨?_, (List.forall_mem_cons.2 ⟨rfl, (List.forall_mem_cons.2 ⟨rfl, (List.forall_mem_cons.2 ⟨(by show Value.slice O3 (tt.length + 1) d3 = Value.slice O3 (tt ++ [_]).length d3; rw [List.length_append]; rfl), (fun _ h => nomatch h)⟩)⟩)⟩)⟩, (by dsimp only; simp only [List.length_append, List.flatMap_append, List.map_append]; exact Sub.trans (sk (sk (sk (sd sn0)))) (Sub.trans (sk (Sub.trans (sk (Sub.trans (sk sr) (Sub.of_perm pm1))) (Sub.of_perm pm1))) (Sub.of_perm pm2)))⟩
   ·exact ⟨by show _ ≤ _; dsimp only; omega, by dsimp only; rw [List.map_append, htt, List.range_succ, List.map_append, List.map_singleton, List.map_singleton]; unfold zc2; rw [if_neg h32]⟩
   ·show _ < _; dsimp only; omega
   exact outs
 ·refine TC.exit (TC.seq (gw ?_))
  refine TC.ret (finQ.ret rv (sk (sk (sd sn0))) ?_)
  obtain rfl : k = ps.length := by omega
  exact ⟨O, d, tt, rfl, rfl, htt, by omega⟩
theorem zmR (fn : FuncId) (cap : Array Value) (hent : zae prog fn) (X2 : Option (List (List UInt8)))  (w0 : World) (h1 : ∀ w, St w0 [] [] w → Calls prog fn ((([.bool true] : List Value) ++ cap.toList).toArray) w (Post w [] (TxQ none))) (h2 : ∀ w, St w0 [] [] w → Calls prog fn ((([.bool false] : List Value) ++ cap.toList).toArray) w (Post w [] (TxQ X2))) :
  Calls prog 45 #[.func (.func fn) #[] cap] w0 (Post w0 [] fun v L => PxQ 114 (zbl none X2) v L) := by
 refine co 48 [.tmp 2] func45 ?_
 refine TC.ownNil 114 2 ?_
 refine TC.manyNil (gw ?_)
 refine S.o (OpV.con (Pre := []) (R := _) hent rfl pr (fun w hw => h1 w (hw.sub sn)) ?_)
 rintro v L' ⟨k1, rfl, rfl⟩
 refine gw ?_
 refine TC.ret (fin1 (Sub.trans (sk sr) (Sub.of_perm pm1)) ?_)
 exact ⟨none, 0, [], [], rfl, rfl, rfl, Nat.zero_le _, fun p hp => nomatch hp⟩
theorem zkR (fn : FuncId) (cap : Array Value) (hent : zae prog fn) (a : List (List UInt8))  (w0 : World) (h1 : ∀ w, St w0 [] [] w → Calls prog fn ((([.bool true] : List Value) ++ cap.toList).toArray) w (Post w [] (TxQ (some a)))) (h2 : ∀ w, St w0 [] [] w → Calls prog fn ((([.bool false] : List Value) ++ cap.toList).toArray) w (Post w [] (TxQ none))) :
  Calls prog 45 #[.func (.func fn) #[] cap] w0 (Post w0 [] fun v L => PxQ 114 (zbl (some a) none) v L) := by
 refine co 48 [.tmp 2] func45 ?_
 refine TC.ownNil 114 2 ?_
 refine TC.manyNil (gw ?_)
 refine S.o (OpV.con (Pre := []) (R := _) hent rfl pr (fun w hw => h1 w (hw.sub sn)) ?_)
 rintro v L' ⟨O1, d1, t1, rfl, rfl, e1, l1⟩
 have n1 := congrArg List.length e1
 rw [List.length_map] at n1
 refine gw ?_
 refine S.o (OpV.con (Pre := []) (R := _) hent rfl pr (fun w hw => h2 w (hw.sub sn)) ?_)
 rintro v L' ⟨k2, rfl, rfl⟩
 refine gw ?_
 refine TC.ret (fin1 (Sub.trans (sk (sk (sd (sd sn0)))) (Sub.trans (sk (Sub.trans (sk sr) (Sub.of_perm pm2))) (Sub.of_perm pm3))) ?_)
 exact ⟨none, 0, [], [], rfl, rfl, rfl, Nat.zero_le _, fun p hp => nomatch hp⟩
theorem zmS (fn : FuncId) (cap : Array Value) (hent : zae prog fn) (a b : List (List UInt8)) (hl : a.length ≠ b.length) (w0 : World) (h1 : ∀ w, St w0 [] [] w → Calls prog fn ((([.bool true] : List Value) ++ cap.toList).toArray) w (Post w [] (TxQ (some a)))) (h2 : ∀ w, St w0 [] [] w → Calls prog fn ((([.bool false] : List Value) ++ cap.toList).toArray) w (Post w [] (TxQ (some b)))) :
  Calls prog 45 #[.func (.func fn) #[] cap] w0 (Post w0 [] fun v L => PxQ 114 (zbl (some a) (some b)) v L) := by
 refine co 48 [.tmp 2] func45 ?_
 refine TC.ownNil 114 2 ?_
 refine TC.manyNil (gw ?_)
 refine S.o (OpV.con (Pre := []) (R := _) hent rfl pr (fun w hw => h1 w (hw.sub sn)) ?_)
 rintro v L' ⟨O1, d1, t1, rfl, rfl, e1, l1⟩
 have n1 := congrArg List.length e1
 rw [List.length_map] at n1
 refine gw ?_
 refine S.o (OpV.con (Pre := []) (R := _) hent rfl pr (fun w hw => h2 w (hw.sub sn)) ?_)
 rintro v L' ⟨O2, d2, t2, rfl, rfl, e2, l2⟩
 have n2 := congrArg List.length e2
 rw [List.length_map] at n2
 refine gw ?_
 refine S.qg rfl rfl rfl (Qt.dT (Qt.ne rfl rfl) ow) (gw ?_)
 refine TC.ret (fin1 (Sub.trans (sk (sk (sd (sd (sd (sd sn0)))))) (Sub.trans (sk (Sub.trans (sk sr) (Sub.of_perm pm4))) (Sub.of_perm pm5))) ?_)
 exact ⟨none, 0, [], [], rfl, rfl, (zox hl).symm, Nat.zero_le _, fun p hp => nomatch hp⟩
theorem zmT (fn : FuncId) (cap : Array Value) (hent : zae prog fn) (a b : List (List UInt8)) (hl : a.length = b.length) (w0 : World) (h1 : ∀ w, St w0 [] [] w → Calls prog fn ((([.bool true] : List Value) ++ cap.toList).toArray) w (Post w [] (TxQ (some a)))) (h2 : ∀ w, St w0 [] [] w → Calls prog fn ((([.bool false] : List Value) ++ cap.toList).toArray) w (Post w [] (TxQ (some b)))) :
    Calls prog 45 #[.func (.func fn) #[] cap] w0 (Post w0 [] fun v L => PxQ 114 (zbl (some a) (some b)) v L) := by
  refine Calls.of (L := []) (n := 48) (rs := [.tmp 2]) func45 rfl rfl rfl (Nat.le_of_ble_eq_true rfl) (Sat.nil _) ?_
  refine TC.ownNil 114 2 ?_
  refine TC.manyNil ?_
  refine TC.seq ?_
  refine TC.region ?_
  refine S.as ?_
  refine S.nil ?_
  refine TC.seq ?_
  refine TC.region ?_
  refine S.mv ?_
  refine S.o (OpV.con (Pre := []) (R := _) hent rfl pr (fun w hw => h1 w (hw.sub sn)) ?_)
  rintro v L' ⟨O1, d1, t1, rfl, rfl, e1, l1⟩
  have n1 := congrArg List.length e1
  rw [List.length_map] at n1
  refine S.mv ?_
  refine S.r (Qt.extract rfl rfl) ?_
  refine S.r (Qt.extract rfl rfl) ?_
  refine S.as ?_
  refine S.as ?_
  refine S.nil ?_
  refine TC.seq ?_
  refine TC.seq ?_
  refine TC.region ?_
  refine S.mv ?_
  refine S.r (Qt.nenil_nil uT rfl) ?_
  refine S.nil ?_
  refine S.if_f rfl ?_
  refine TC.skip ?_
  refine TC.seq ?_
  refine TC.region ?_
  refine S.mv ?_
  refine S.o (OpV.con (Pre := []) (R := _) hent rfl pr (fun w hw => h2 w (hw.sub sn)) ?_)
  rintro v L' ⟨O2, d2, t2, rfl, rfl, e2, l2⟩
  have n2 := congrArg List.length e2
  rw [List.length_map] at n2
  refine S.mv ?_
  refine S.r (Qt.extract rfl rfl) ?_
  refine S.r (Qt.extract rfl rfl) ?_
  refine S.as ?_
  refine S.as ?_
  refine S.nil ?_
  refine TC.seq ?_
  refine TC.seq ?_
  refine TC.region ?_
  refine S.mv ?_
  refine S.r (Qt.nenil_nil uT rfl) ?_
  refine S.mv ?_
  refine S.qg rfl rfl rfl (Qt.move cw) ?_
  refine S.qg rfl rfl rfl (Qt.len_slice uT rfl) ?_
  refine S.qg rfl rfl rfl (Qt.move cw) ?_
  refine S.qg rfl rfl rfl (Qt.len_slice uT rfl) ?_
  refine S.qg rfl rfl rfl (Qt.dF (Qt.ne rfl rfl) ow) ?_
  refine S.r (Qt.pick_f rfl cw) ?_
  refine S.nil ?_
  refine S.if_f rfl ?_
  refine TC.skip ?_
  refine TC.seq ?_
  refine TC.region ?_
  refine S.as ?_
  refine S.nil ?_
  refine TC.seq ?_
  refine TC.seq ?_
  refine TC.region ?_
  refine S.mv ?_
  refine S.r (Qt.len_slice uT rfl) ?_
  refine S.mv ?_
  refine S.nil ?_
  refine TC.block ?_
  refine TC.loop (γ := Nat × OAd × Nat) [32, 33, 7, 34, 35, 36, 37, 38, 39, 40, 41, 42, 43, 44, 45, 6, 46, 31] (fun g => [(31, .int .i64 ((g.1 : Nat) : Int)), (6, .slice g.2.1 g.1 g.2.2)]) (fun g => [OwnA 114 2 g.2.1 g.1 g.2.2 (((t1.take g.1).zip (t2.take g.1)).flatMap pxL), OwnA 112 1 O1 t1.length d1 (t1.flatMap txL), Many (t1.map zaN), OwnA 112 1 O2 t2.length d2 (t2.flatMap txL), Many (t2.map zaN)]) (fun g => g.1 ≤ t1.length) (fun g => t1.length - g.1) ((0, none, 0))
    (Nat.zero_le _) ⟨Out.refl _ _, (List.forall_mem_cons.2 ⟨rfl, (List.forall_mem_cons.2 ⟨rfl, (fun _ h => nomatch h)⟩)⟩)⟩ (Sub.trans (sk (sk (sk (sk (sk (sd sn0)))))) (Sub.trans (sk (Sub.trans (sk (Sub.trans (sk sr) (Sub.of_perm pm2))) (Sub.of_perm pm2))) (Sub.of_perm pm5))) ?_
  rintro ⟨k, O, d⟩ u hk
  dsimp only at hk
  show TC _ _ _ (puts [(31, .int .i64 (k : Int)), (6, .slice O k d)] (scr _ u _)) [OwnA 114 2 O k d (((t1.take k).zip (t2.take k)).flatMap pxL), OwnA 112 1 O1 t1.length d1 (t1.flatMap txL), Many (t1.map zaN), OwnA 112 1 O2 t2.length d2 (t2.flatMap txL), Many (t2.map zaN)]
  refine TC.seq ?_
  refine TC.region ?_
  refine S.dec rfl rfl (Qt.lt rfl rfl) (fun h32 => ?_) (fun h32 => ?_)
  · refine S.nil ?_
    refine TC.seq ?_
    refine S.if_t rfl ?_
    refine TC.skip ?_
    refine TC.seq ?_
    refine TC.block ?_
    refine TC.seq ?_
    refine TC.region ?_
    refine S.mv ?_
    refine S.as ?_
    refine S.nil ?_
    refine S.draw ([11], [10]) mixed (sd (sk (sk (sk (sk sn0))))) ?_
    refine D.qY 0 rfl (Qt.move cw) ?_
    refine D.qY 1 rfl (Qt.move cw) ?_
    refine D.qY 2 rfl (Qt.move cw) ?_
    refine D.qY 3 rfl (Qt.index uT cT rfl rfl ow (Has.own hz1) (by rw [zkD]; omega)) ?_
    refine D.qY 4 rfl (Qt.load rfl (Ld.sl (v := .slice (t1.getD k tx0).1 (t1.getD k tx0).2.2.length (t1.getD k tx0).2.1) (Has.own hz1) oT (zor ow))) ?_
    refine D.qY 5 rfl (Qt.move cw) ?_
    refine D.qY 6 rfl (Qt.move cw) ?_
    refine D.qY 7 rfl (Qt.index uT cT rfl rfl ow (Has.own hz3) (by rw [zkD]; omega)) ?_
    refine D.qY 8 rfl (Qt.load rfl (Ld.sl (v := .slice (t2.getD k tx0).1 (t2.getD k tx0).2.2.length (t2.getD k tx0).2.1) (Has.own hz3) oT (zor ow))) ?_
    refine D.qY 9 rfl (Qt.build2 (a := .slice (t1.getD k tx0).1 (t1.getD k tx0).2.2.length (t1.getD k tx0).2.1) (b := .slice (t2.getD k tx0).1 (t2.getD k tx0).2.2.length (t2.getD k tx0).2.1) rfl rfl (build66 _ _ _ _ _ _)) ?_
    refine D.nS (k := 10) (sd (sk (sk (sk (sk sn0))))) rfl (by kernel_rfl) (by kernel_rfl) rfl rfl (OpV.slice1 (bytes := 48) (v := .agg #[.slice (t1.getD k tx0).1 (t1.getD k tx0).2.2.length (t1.getD k tx0).2.1, .slice (t2.getD k tx0).1 (t2.getD k tx0).2.2.length (t2.getD k tx0).2.1]) uT elem114 (by decide) rfl rfl (fun gp => ⟨sd (sk (sk (sk (sk (sk sn0))))), ?_⟩))
    refine D.opS (k := 11) (sd (sd (sk (sk (sk (sk sn0)))))) rfl (by kernel_rfl) (by kernel_rfl) rfl rfl (OpV.app1 (bytes := 48) (news := [.slice (t1.getD k tx0).1 (t1.getD k tx0).2.2.length (t1.getD k tx0).2.1, .slice (t2.getD k tx0).1 (t2.getD k tx0).2.2.length (t2.getD k tx0).2.1]) uT elem114 rfl rfl (Has.blk (cs := [.slice (t1.getD k tx0).1 (t1.getD k tx0).2.2.length (t1.getD k tx0).2.1, .slice (t2.getD k tx0).1 (t2.getD k tx0).2.2.length (t2.getD k tx0).2.1]) hz0) rfl zsl (by simp only [maxLen]; omega) ow (fun O3 d3 => ⟨sd (sd (sk (sk (sk (sk sn0))))), ?_⟩))
    refine D.qY 12 rfl (Qt.assign cw) ?_
    refine D.done (sd (sd (sk (sk (sk (sk sn0)))))) (by kernel_rfl) ?_
    refine TC.region ?_
    refine S.r (Qt.add (b := 1) rfl rfl km) ?_
    refine S.mv ?_
    refine S.nil ?_
    refine ⟨(k + 1, O3, d3), ?_, ?_, ⟨?_, (List.forall_mem_cons.2 ⟨rfl, (List.forall_mem_cons.2 ⟨rfl, (fun _ h => nomatch h)⟩)⟩)⟩, (by dsimp only; rw [zqM ow ow, List.flatMap_append]; exact Sub.trans (sk (sk (sk (sk (sk (sd sn0)))))) (Sub.trans (sk (Sub.trans (sk (Sub.trans (sk (Sub.trans (sk (Sub.trans (sk sr) (Sub.of_perm pm1))) (Sub.of_perm pm1))) (Sub.of_perm pm1))) (Sub.of_perm pm1))) (Sub.of_perm pm1)))⟩
    · show _ ≤ _; dsimp only; omega
    · show _ < _; dsimp only; omega
    repeat (first | exact Out.refl _ _ | refine Out.put rfl ?_ | refine Out.puts rfl ?_ | refine Out.scr ?_ | refine Out.scr' rfl ?_)
  · refine S.nil ?_
    refine TC.seq ?_
    refine S.if_f rfl ?_
    refine TC.exit ?_
    refine TC.seq ?_
    refine TC.region ?_
    refine TL.manyTwo (pm2.trans (pc pm3)) ?_
    refine S.mv ?_
    refine S.as ?_
    refine S.nil ?_
    refine TC.ret (finQ.ret rv (Sub.trans (sk (sk (sd (sd sn0)))) (Sub.trans (sk sr) (Sub.of_perm pm1))) ?_)
    obtain rfl : k = t1.length := by omega
    have hz := zqN t1 t2 (Nat.le_refl _) ow
    have hE : zipE t1 t2 = zipP t1 t2 := if_pos ow
    have hl : (zipE t1 t2).length = t1.length := by rw [hE, zipP, List.length_zip]; omega
    refine ⟨O, d, zipE t1 t2, t1.map zaN ++ t2.map zaN, by rw [hl]; rfl, by rw [hl, hE, ← hz], ?_, by omega, zqO⟩
    rw [zte, e1, e2]; rfl
theorem zlY (fn : FuncId) (cap : Array Value) (hent : zae prog fn) (X1 X2 : Option (List (List UInt8))) (w0 : World) (h1 : ∀ w, St w0 [] [] w → Calls prog fn ((([.bool true] : List Value) ++ cap.toList).toArray) w (Post w [] (TxQ X1))) (h2 : ∀ w, St w0 [] [] w → Calls prog fn ((([.bool false] : List Value) ++ cap.toList).toArray) w (Post w [] (TxQ X2))) :
  Calls prog 45 #[.func (.func fn) #[] cap] w0 (Post w0 [] fun v L => PxQ 114 (zbl X1 X2) v L) := by
 cases X1 with
 | none => exact zmR fn cap hent X2 w0 h1 h2
 | some a => cases X2 with
  | none => exact zkR fn cap hent a w0 h1 h2
  | some b =>
   by_cases hl : a.length = b.length
   ·exact zmT fn cap hent a b hl w0 h1 h2
   ·exact zmS fn cap hent a b hl w0 h1 h2
theorem zlZ (x : H32) (i : Nat) (A : OAd) (c : Nat) (ps : List H32) (hi : i < 18446744073709551616) (w0 : World) (hR : Ro w0 [] (SlA A (hcs ps))) (hT : Tabs 3 1 w0 []) : Calls prog 155 #[.int .u64 (i : Int), .agg (hvl x ++ [Value.slice A ps.length c]).toArray] w0 (Post w0 [] fun v L => TxQ (zc3 x i ps) v L) := by
 by_cases hf : zdk i ps.length
 ·rw [zkN hf]; exact zkQ x i A c ps hi hf w0 hR hT
 ·rw [zsm hf]; exact zjv x i A c ps hi hf w0
theorem zoB (q1 q2 q3 i : Nat) (cs ds : List Value) (hc : cs.length = 33) (hd : ds.length = 33) (hc1 : cs.all (·.oneCell') = true) (hd1 : ds.all (·.oneCell') = true) (w0 : World) (h1 : Ro w0 [] (Blk q1 40 [.int .u64 (i : Int)])) (h2 : Ro w0 [] (Blk q2 198 cs)) (h3 : Ro w0 [] (Blk q3 198 ds)) (hX : ∀ w, St w0 [] [] w → Calls prog 155 #[.int .u64 (i : Int), .agg cs.toArray] w (Post w [] (TxQ none))) :
  Calls prog 154 #[.bool true, .pointer (some ⟨q1, 0, none⟩), .pointer (some ⟨q2, 0, none⟩), .pointer (some ⟨q3, 0, none⟩)] w0 (Post w0 [] fun v L => TxQ none v L) := by
 refine co 15 [.tmp 5, .tmp 6] func154 ?_
 refine gw ?_
 refine dr ([], [5]) (gw ?_)
 refine D.qY 2 rfl (Qt.load rfl (Ld.all (vs := cs) (Has.ro h2) rT (by rw [hc]; exact ce198))) ?_
 refine D.qY 3 rfl (Qt.load rfl (Ld.all (vs := ds) (Has.ro h3) rT (by rw [hd]; exact ce198))) ?_
 refine D.c0 4 rfl J156 (fun w hw => Calls.ret (zhR cs ds hc hd hc1 hd1 w)) ?_
 refine D.nZ 5 rfl J155 (fun w hw => hX w (hw.sub sn)) ?_
 rintro v L' ⟨k1, rfl, rfl⟩
 refine gw ?_
 refine D.fi ?_
 refine TC.ret (fR ?_)
 exact ⟨k1, rfl, rfl⟩
theorem zoC (q1 q2 q3 i : Nat) (cs ds : List Value) (hc : cs.length = 33) (hd : ds.length = 33) (hc1 : cs.all (·.oneCell') = true) (hd1 : ds.all (·.oneCell') = true) (a : List (List UInt8)) (w0 : World) (h1 : Ro w0 [] (Blk q1 40 [.int .u64 (i : Int)])) (h2 : Ro w0 [] (Blk q2 198 cs)) (h3 : Ro w0 [] (Blk q3 198 ds)) (hX : ∀ w, St w0 [] [] w → Calls prog 155 #[.int .u64 (i : Int), .agg cs.toArray] w (Post w [] (TxQ (some a)))) :
  Calls prog 154 #[.bool true, .pointer (some ⟨q1, 0, none⟩), .pointer (some ⟨q2, 0, none⟩), .pointer (some ⟨q3, 0, none⟩)] w0 (Post w0 [] fun v L => TxQ (some a) v L) := by
 refine co 15 [.tmp 5, .tmp 6] func154 ?_
 refine gw ?_
 refine dr ([], [5]) (gw ?_)
 refine D.qY 2 rfl (Qt.load rfl (Ld.all (vs := cs) (Has.ro h2) rT (by rw [hc]; exact ce198))) ?_
 refine D.qY 3 rfl (Qt.load rfl (Ld.all (vs := ds) (Has.ro h3) rT (by rw [hd]; exact ce198))) ?_
 refine D.c0 4 rfl J156 (fun w hw => Calls.ret (zhR cs ds hc hd hc1 hd1 w)) ?_
 refine D.nZ 5 rfl J155 (fun w hw => hX w (hw.sub sn)) ?_
 rintro v L' ⟨O1, d1, t1, rfl, rfl, e1, l1⟩
 refine gw ?_
 refine D.fi ?_
 refine TC.ret (finQ.ret rv sr ?_)
 exact ⟨O1, d1, t1, rfl, rfl, e1, l1⟩
theorem zoD (q1 q2 q3 i : Nat) (cs ds : List Value) (hc : cs.length = 33) (hd : ds.length = 33) (hc1 : cs.all (·.oneCell') = true) (hd1 : ds.all (·.oneCell') = true) (X : Option (List (List UInt8))) (w0 : World) (h1 : Ro w0 [] (Blk q1 40 [.int .u64 (i : Int)])) (h2 : Ro w0 [] (Blk q2 198 cs)) (h3 : Ro w0 [] (Blk q3 198 ds)) (hX : ∀ w, St w0 [] [] w → Calls prog 155 #[.int .u64 (i : Int), .agg cs.toArray] w (Post w [] (TxQ X))) :
  Calls prog 154 #[.bool true, .pointer (some ⟨q1, 0, none⟩), .pointer (some ⟨q2, 0, none⟩), .pointer (some ⟨q3, 0, none⟩)] w0 (Post w0 [] (TxQ X)) := by
 cases X with
 | none => exact zoB q1 q2 q3 i cs ds hc hd hc1 hd1 w0 h1 h2 h3 hX
 | some a => exact zoC q1 q2 q3 i cs ds hc hd hc1 hd1 a w0 h1 h2 h3 hX
theorem zkS (b3 b4 b5 : Nat) (i : Nat) (hi : i < 18446744073709551616) (x : H32) (A : OAd) (c : Nat) (ps : List H32) (y : H32) (B : OAd) (e : Nat) (qs : List H32) (w0 : World) (hR : Ro w0 [] (SlA A (hcs ps))) (hR2 : Ro w0 [] (SlA B (hcs qs))) (hT : Tabs 3 1 w0 []) (h3 : Ro w0 [] (Blk b3 40 [.int .u64 (i : Int)])) (h4 : Ro w0 [] (Blk b4 198 (hvl x ++ [Value.slice A ps.length c]))) (h5 : Ro w0 [] (Blk b5 198 (hvl y ++ [Value.slice B qs.length e]))) :
  ∀ w, St w0 [] [] w → Calls prog 154 ((([.bool true] : List Value) ++ (#[.pointer (some ⟨b3, 0, none⟩), .pointer (some ⟨b4, 0, none⟩), .pointer (some ⟨b5, 0, none⟩)] : Array Value).toList).toArray) w (Post w [] (TxQ (zc3 x i ps))) := fun w s =>
 zoD b3 b4 b5 i (hvl x ++ [Value.slice A ps.length c]) (hvl y ++ [Value.slice B qs.length e]) (zbI x _) (zbI y _) (by rw [List.all_append, zco]; rfl) (by rw [List.all_append, zco]; rfl) (zc3 x i ps) w (h3.go s (fun b hb => by cases hb)) (h4.go s (fun b hb => by cases hb)) (h5.go s (fun b hb => by cases hb)) (fun w2 s2 => zlZ x i A c ps hi w2 ((hR.go s (fun b hb => by cases hb)).go s2 (fun b hb => by cases hb)) ((hT.of_go s (fun b hb => by cases hb)).of_go s2 (fun b hb => by cases hb)))
theorem zmU (q1 q2 q3 i : Nat) (cs ds : List Value) (hc : cs.length = 33) (hd : ds.length = 33) (hc1 : cs.all (·.oneCell') = true) (hd1 : ds.all (·.oneCell') = true) (w0 : World) (h1 : Ro w0 [] (Blk q1 40 [.int .u64 (i : Int)])) (h2 : Ro w0 [] (Blk q2 198 cs)) (h3 : Ro w0 [] (Blk q3 198 ds)) (hX : ∀ w, St w0 [] [] w → Calls prog 155 #[.int .u64 (i : Int), .agg ds.toArray] w (Post w [] (TxQ none))) :
  Calls prog 154 #[.bool false, .pointer (some ⟨q1, 0, none⟩), .pointer (some ⟨q2, 0, none⟩), .pointer (some ⟨q3, 0, none⟩)] w0 (Post w0 [] fun v L => TxQ none v L) := by
 refine co 15 [.tmp 5, .tmp 6] func154 ?_
 refine gw ?_
 refine dr ([], [5]) (gw ?_)
 refine D.qY 2 rfl (Qt.load rfl (Ld.all (vs := cs) (Has.ro h2) rT (by rw [hc]; exact ce198))) ?_
 refine D.qY 3 rfl (Qt.load rfl (Ld.all (vs := ds) (Has.ro h3) rT (by rw [hd]; exact ce198))) ?_
 refine D.c0 4 rfl J156 (fun w hw => Calls.ret (zgI cs ds hc hd hc1 hd1 w)) ?_
 refine D.nZ 5 rfl J155 (fun w hw => hX w (hw.sub sn)) ?_
 rintro v L' ⟨k1, rfl, rfl⟩
 refine gw ?_
 refine D.fi ?_
 refine TC.ret (fR ?_)
 exact ⟨k1, rfl, rfl⟩
theorem zmV (q1 q2 q3 i : Nat) (cs ds : List Value) (hc : cs.length = 33) (hd : ds.length = 33) (hc1 : cs.all (·.oneCell') = true) (hd1 : ds.all (·.oneCell') = true) (a : List (List UInt8)) (w0 : World) (h1 : Ro w0 [] (Blk q1 40 [.int .u64 (i : Int)])) (h2 : Ro w0 [] (Blk q2 198 cs)) (h3 : Ro w0 [] (Blk q3 198 ds)) (hX : ∀ w, St w0 [] [] w → Calls prog 155 #[.int .u64 (i : Int), .agg ds.toArray] w (Post w [] (TxQ (some a)))) :
  Calls prog 154 #[.bool false, .pointer (some ⟨q1, 0, none⟩), .pointer (some ⟨q2, 0, none⟩), .pointer (some ⟨q3, 0, none⟩)] w0 (Post w0 [] fun v L => TxQ (some a) v L) := by
 refine co 15 [.tmp 5, .tmp 6] func154 ?_
 refine gw ?_
 refine dr ([], [5]) (gw ?_)
 refine D.qY 2 rfl (Qt.load rfl (Ld.all (vs := cs) (Has.ro h2) rT (by rw [hc]; exact ce198))) ?_
 refine D.qY 3 rfl (Qt.load rfl (Ld.all (vs := ds) (Has.ro h3) rT (by rw [hd]; exact ce198))) ?_
 refine D.c0 4 rfl J156 (fun w hw => Calls.ret (zgI cs ds hc hd hc1 hd1 w)) ?_
 refine D.nZ 5 rfl J155 (fun w hw => hX w (hw.sub sn)) ?_
 rintro v L' ⟨O1, d1, t1, rfl, rfl, e1, l1⟩
 refine gw ?_
 refine D.fi ?_
 refine TC.ret (finQ.ret rv sr ?_)
 exact ⟨O1, d1, t1, rfl, rfl, e1, l1⟩
theorem zmW (q1 q2 q3 i : Nat) (cs ds : List Value) (hc : cs.length = 33) (hd : ds.length = 33) (hc1 : cs.all (·.oneCell') = true) (hd1 : ds.all (·.oneCell') = true) (X : Option (List (List UInt8))) (w0 : World) (h1 : Ro w0 [] (Blk q1 40 [.int .u64 (i : Int)])) (h2 : Ro w0 [] (Blk q2 198 cs)) (h3 : Ro w0 [] (Blk q3 198 ds)) (hX : ∀ w, St w0 [] [] w → Calls prog 155 #[.int .u64 (i : Int), .agg ds.toArray] w (Post w [] (TxQ X))) :
  Calls prog 154 #[.bool false, .pointer (some ⟨q1, 0, none⟩), .pointer (some ⟨q2, 0, none⟩), .pointer (some ⟨q3, 0, none⟩)] w0 (Post w0 [] (TxQ X)) := by
 cases X with
 | none => exact zmU q1 q2 q3 i cs ds hc hd hc1 hd1 w0 h1 h2 h3 hX
 | some a => exact zmV q1 q2 q3 i cs ds hc hd hc1 hd1 a w0 h1 h2 h3 hX
theorem zjw (b3 b4 b5 : Nat) (i : Nat) (hi : i < 18446744073709551616) (x : H32) (A : OAd) (c : Nat) (ps : List H32) (y : H32) (B : OAd) (e : Nat) (qs : List H32) (w0 : World) (hR : Ro w0 [] (SlA A (hcs ps))) (hR2 : Ro w0 [] (SlA B (hcs qs))) (hT : Tabs 3 1 w0 []) (h3 : Ro w0 [] (Blk b3 40 [.int .u64 (i : Int)])) (h4 : Ro w0 [] (Blk b4 198 (hvl x ++ [Value.slice A ps.length c]))) (h5 : Ro w0 [] (Blk b5 198 (hvl y ++ [Value.slice B qs.length e]))) :
  ∀ w, St w0 [] [] w → Calls prog 154 ((([.bool false] : List Value) ++ (#[.pointer (some ⟨b3, 0, none⟩), .pointer (some ⟨b4, 0, none⟩), .pointer (some ⟨b5, 0, none⟩)] : Array Value).toList).toArray) w (Post w [] (TxQ (zc3 y i qs))) := fun w s =>
 zmW b3 b4 b5 i (hvl x ++ [Value.slice A ps.length c]) (hvl y ++ [Value.slice B qs.length e]) (zbI x _) (zbI y _) (by rw [List.all_append, zco]; rfl) (by rw [List.all_append, zco]; rfl) (zc3 y i qs) w (h3.go s (fun b hb => by cases hb)) (h4.go s (fun b hb => by cases hb)) (h5.go s (fun b hb => by cases hb)) (fun w2 s2 => zlZ y i B e qs hi w2 ((hR2.go s (fun b hb => by cases hb)).go s2 (fun b hb => by cases hb)) ((hT.of_go s (fun b hb => by cases hb)).of_go s2 (fun b hb => by cases hb)))
theorem zgJ (i : Nat) (hi : i < 18446744073709551616) (x : H32) (A : OAd) (c : Nat) (ps : List H32) (y : H32) (B : OAd) (e : Nat) (qs : List H32) (w0 : World) (hR : Ro w0 [] (SlA A (hcs ps))) (hR2 : Ro w0 [] (SlA B (hcs qs))) (hT : Tabs 3 1 w0 []) :
  Calls prog 96 #[.int .u64 (i : Int), .agg (hvl x ++ [Value.slice A ps.length c]).toArray, .agg (hvl y ++ [Value.slice B qs.length e]).toArray] w0 (Post w0 [] fun v L => PxQ 114 (zbl (zc3 x i ps) (zc3 y i qs)) v L) := by
 refine co 9 [.tmp 6] func96 ?_
 refine gw ?_
 intro b3
 refine gw ?_
 intro b4
 refine gw ?_
 intro b5
 refine gw ?_
 refine S.r (Qt.makeFuncL (fs := []) (cs := [.pointer (some ⟨b3, 0, none⟩), .pointer (some ⟨b4, 0, none⟩), .pointer (some ⟨b5, 0, none⟩)]) rfl rfl) ?_
 refine S.cn J45 (fun w hw => zlY 154 #[.pointer (some ⟨b3, 0, none⟩), .pointer (some ⟨b4, 0, none⟩), .pointer (some ⟨b5, 0, none⟩)] J154 (zc3 x i ps) (zc3 y i qs) w (zkS b3 b4 b5 i hi x A c ps y B e qs w (Rd.ro hR w hw) (Rd.ro hR2 w hw) (hT.at hw) (Rd.at 2 rfl w hw) (Rd.at 1 rfl w hw) (Rd.at 0 rfl w hw)) (zjw b3 b4 b5 i hi x A c ps y B e qs w (Rd.ro hR w hw) (Rd.ro hR2 w hw) (hT.at hw) (Rd.at 2 rfl w hw) (Rd.at 1 rfl w hw) (Rd.at 0 rfl w hw))) ?_
 rintro v L' ⟨O, d, pp, Ls, rfl, rfl, q1, q2, q3⟩
 refine gw ?_
 refine TC.ret (fin1 (sk (sk (sd (sd (sd sn0))))) ?_)
 exact ⟨O, d, pp, Ls, rfl, rfl, q1, q2, q3⟩
theorem zl0 (z : Int) (A : OAd) (c : Nat) (xs : List Nat) (hc : xs.length ≤ c) (B : OAd) (b : Nat) (ls : List H32) (Z : OAd) (e : Nat) (bs : List H32) (hb : ls.length ≤ b) (hbs : bs.length ≤ e) (w0 : World) (hlow : ∀ x ∈ xs, x < 18446744073709551616) (hR : Ro w0 [] (SlA A (u64s xs))) (hB : Ro w0 [] (SlA B (hcs ls))) (hD : Ro w0 [] (SlA Z (hcs bs))) (hT : Tabs 3 1 w0 []) : Calls prog 144 #[.int .i64 z, .slice A xs.length c, .slice B ls.length b, .slice Z bs.length e] w0 (Post w0 [] fun v L => TxQ (zbp z xs ls bs) v L) := by
 have hE : ∀ (z : Int) (k : Nat), (∀ w, Ro w [] (SlA A (u64s xs)) → Ro w [] (SlA B (hcs ls)) → Ro w [] (SlA Z (hcs bs)) → Calls prog 188 #[.int .i64 z, .slice A xs.length c, .slice B ls.length b, .slice Z bs.length e] w (Ret w (.tuple #[hv zac, .slice none 0 0, .iface 73 (.int .i64 (k : Int))]))) → Calls prog 144 #[.int .i64 z, .slice A xs.length c, .slice B ls.length b, .slice Z bs.length e] w0 (Post w0 [] fun v L => TxQ none v L) :=
  fun z k h => (zov z k A c xs B b ls Z e bs h w0 hR hB hD).mono fun q w ⟨v, L, h1, h2, h3, h4⟩ => ⟨v, L, h1, h2, (k : Int), h3, h4⟩
 by_cases hz : z < 0 ∨ 32 < z
 ·rw [ziz (by rw [zbL, if_pos hz]; decide)]; exact hE z 1 (fun w r1 r2 r3 => ziv z A c xs hc B b ls Z e bs ow hlow w r1)
 ·obtain ⟨height, rfl⟩ : ∃ n : Nat, z = (n : Int) := ⟨z.toNat, by omega⟩
  have hh : height ≤ 32 := by omega
  by_cases hi : idxOk height xs
  ·by_cases h2 : ls.length = xs.length
   ·by_cases h3 : bs.length = (zaj height xs 0).length
    ·rw [zkO hh hi h2 h3]; exact (zow height hh A c xs hc B b ls Z e bs hi h2 h3 hb hbs w0 hlow hR hB hD hT).mono fun q w ⟨v, L, k1, k2, O, d, tt, k3, k4, k5⟩ => ⟨v, L, k1, k2, O, d, tt, k3, k4, k5, by have n1 := congrArg List.length k5; rw [List.length_map] at n1; have n2 := zcz height xs 0 ls bs; have n3 : xs.length * height ≤ 256 * 32 := Nat.mul_le_mul hi.2.1 hh; omega⟩
    ·rw [ziz (by rw [zcH hh, zkH hi h2 h3]; show (5 : Nat) ≠ 0; decide)]; exact hE _ 5 (fun w r1 r2 r3 => Calls.ret (zhN height hh A c xs hc B b ls Z e bs hi h2 h3 w hlow r1 r2 r3))
   ·rw [ziz (by rw [zcH hh, zkG hi h2]; show (2 : Nat) ≠ 0; decide)]; exact hE _ 2 (fun w r1 r2 r3 => Calls.ret (zhM height hh A c xs hc B b ls Z e bs hi h2 w hlow r1 r2 r3))
  ·rw [ziz (by rw [zcH hh, zkF hi]; show (1 : Nat) ≠ 0; decide)]; exact hE _ 1 (fun w r1 r2 r3 => ziv _ A c xs hc B b ls Z e bs (.inr (.inr ⟨height, rfl, hh, hi⟩)) hlow w r1)
theorem zoE (q1 q2 q3 q4 : Nat) (z : Int) (A : OAd) (n c : Nat) (B1 : OAd) (n1 a1 : Nat) (Z1 : OAd) (m1 e1 : Nat) (B2 : OAd) (n2 a2 : Nat) (Z2 : OAd) (m2 e2 : Nat) (w0 : World) (h1 : Ro w0 [] (Blk q1 182 (vl (.agg #[.slice B1 n1 a1, .slice Z1 m1 e1])))) (h2 : Ro w0 [] (Blk q2 182 (vl (.agg #[.slice B2 n2 a2, .slice Z2 m2 e2])))) (h3 : Ro w0 [] (Blk q3 3 [.int .i64 z])) (h4 : Ro w0 [] (Blk q4 22 [.slice A n c])) (hX : ∀ w, St w0 [] [] w → Calls prog 144 #[.int .i64 z, .slice A n c, .slice B1 n1 a1, .slice Z1 m1 e1] w (Post w [] (TxQ none))) :
  Calls prog 142 #[.bool true, .pointer (some ⟨q1, 0, none⟩), .pointer (some ⟨q2, 0, none⟩), .pointer (some ⟨q3, 0, none⟩), .pointer (some ⟨q4, 0, none⟩)] w0 (Post w0 [] fun v L => TxQ none v L) := by
 refine co 22 [.tmp 6, .tmp 7] func142 ?_
 refine gw ?_
 refine S.r (Qt.load rfl (Ld.all (vs := vl (.agg #[.slice B1 n1 a1, .slice Z1 m1 e1])) (Has.ro h1) rT ce182)) ?_
 refine S.r (Qt.load rfl (Ld.all (vs := vl (.agg #[.slice B2 n2 a2, .slice Z2 m2 e2])) (Has.ro h2) rT ce182)) ?_
 refine S.c0 J143 (fun w hw => Calls.ret (zhQ B1 n1 a1 Z1 m1 e1 B2 n2 a2 Z2 m2 e2 w)) (gw ?_)
 intro b8
 refine S.opN rfl (OpV.storeV0 (v := .agg #[.slice B1 n1 a1, .slice Z1 m1 e1]) rfl rfl (by exact ce182) (by rfl) (by rfl) ?_)
 refine gw ?_
 refine S.cn J144 (fun w hw => hX w (hw.sub sn)) ?_
 rintro v L' ⟨k1, rfl, rfl⟩
 refine gw ?_
 refine TC.ret (fR ?_)
 exact ⟨k1, rfl, rfl⟩
theorem zoF (q1 q2 q3 q4 : Nat) (z : Int) (A : OAd) (n c : Nat) (B1 : OAd) (n1 a1 : Nat) (Z1 : OAd) (m1 e1 : Nat) (B2 : OAd) (n2 a2 : Nat) (Z2 : OAd) (m2 e2 : Nat) (a : List (List UInt8)) (w0 : World) (h1 : Ro w0 [] (Blk q1 182 (vl (.agg #[.slice B1 n1 a1, .slice Z1 m1 e1])))) (h2 : Ro w0 [] (Blk q2 182 (vl (.agg #[.slice B2 n2 a2, .slice Z2 m2 e2])))) (h3 : Ro w0 [] (Blk q3 3 [.int .i64 z])) (h4 : Ro w0 [] (Blk q4 22 [.slice A n c])) (hX : ∀ w, St w0 [] [] w → Calls prog 144 #[.int .i64 z, .slice A n c, .slice B1 n1 a1, .slice Z1 m1 e1] w (Post w [] (TxQ (some a)))) :
  Calls prog 142 #[.bool true, .pointer (some ⟨q1, 0, none⟩), .pointer (some ⟨q2, 0, none⟩), .pointer (some ⟨q3, 0, none⟩), .pointer (some ⟨q4, 0, none⟩)] w0 (Post w0 [] fun v L => TxQ (some a) v L) := by
 refine co 22 [.tmp 6, .tmp 7] func142 ?_
 refine gw ?_
 refine S.r (Qt.load rfl (Ld.all (vs := vl (.agg #[.slice B1 n1 a1, .slice Z1 m1 e1])) (Has.ro h1) rT ce182)) ?_
 refine S.r (Qt.load rfl (Ld.all (vs := vl (.agg #[.slice B2 n2 a2, .slice Z2 m2 e2])) (Has.ro h2) rT ce182)) ?_
 refine S.c0 J143 (fun w hw => Calls.ret (zhQ B1 n1 a1 Z1 m1 e1 B2 n2 a2 Z2 m2 e2 w)) (gw ?_)
 intro b8
 refine S.opN rfl (OpV.storeV0 (v := .agg #[.slice B1 n1 a1, .slice Z1 m1 e1]) rfl rfl (by exact ce182) (by rfl) (by rfl) ?_)
 refine gw ?_
 refine S.cn J144 (fun w hw => hX w (hw.sub sn)) ?_
 rintro v L' ⟨O1, d1, t1, rfl, rfl, e1, l1⟩
 refine gw ?_
 refine TC.ret (finQ.ret rv (sk (sk (sd sn0))) ?_)
 exact ⟨O1, d1, t1, rfl, rfl, e1, l1⟩
theorem zoG (q1 q2 q3 q4 : Nat) (z : Int) (A : OAd) (n c : Nat) (B1 : OAd) (n1 a1 : Nat) (Z1 : OAd) (m1 e1 : Nat) (B2 : OAd) (n2 a2 : Nat) (Z2 : OAd) (m2 e2 : Nat) (X : Option (List (List UInt8))) (w0 : World) (h1 : Ro w0 [] (Blk q1 182 (vl (.agg #[.slice B1 n1 a1, .slice Z1 m1 e1])))) (h2 : Ro w0 [] (Blk q2 182 (vl (.agg #[.slice B2 n2 a2, .slice Z2 m2 e2])))) (h3 : Ro w0 [] (Blk q3 3 [.int .i64 z])) (h4 : Ro w0 [] (Blk q4 22 [.slice A n c])) (hX : ∀ w, St w0 [] [] w → Calls prog 144 #[.int .i64 z, .slice A n c, .slice B1 n1 a1, .slice Z1 m1 e1] w (Post w [] (TxQ X))) :
  Calls prog 142 #[.bool true, .pointer (some ⟨q1, 0, none⟩), .pointer (some ⟨q2, 0, none⟩), .pointer (some ⟨q3, 0, none⟩), .pointer (some ⟨q4, 0, none⟩)] w0 (Post w0 [] (TxQ X)) := by
 cases X with
 | none => exact zoE q1 q2 q3 q4 z A n c B1 n1 a1 Z1 m1 e1 B2 n2 a2 Z2 m2 e2 w0 h1 h2 h3 h4 hX
 | some a => exact zoF q1 q2 q3 q4 z A n c B1 n1 a1 Z1 m1 e1 B2 n2 a2 Z2 m2 e2 a w0 h1 h2 h3 h4 hX
theorem zkT (b4 b5 b6 b7 : Nat) (z : Int) (A : OAd) (c : Nat) (xs : List Nat) (hc : xs.length ≤ c) (B1 : OAd) (a1 : Nat) (ls1 : List H32) (Z1 : OAd) (e1 : Nat) (bs1 : List H32) (B2 : OAd) (a2 : Nat) (ls2 : List H32) (Z2 : OAd) (e2 : Nat) (bs2 : List H32) (hb1 : ls1.length ≤ a1) (he1 : bs1.length ≤ e1) (hb2 : ls2.length ≤ a2) (he2 : bs2.length ≤ e2) (w0 : World) (hlow : ∀ x ∈ xs, x < 18446744073709551616) (hR : Ro w0 [] (SlA A (u64s xs))) (hB1 : Ro w0 [] (SlA B1 (hcs ls1))) (hD1 : Ro w0 [] (SlA Z1 (hcs bs1))) (hB2 : Ro w0 [] (SlA B2 (hcs ls2))) (hD2 : Ro w0 [] (SlA Z2 (hcs bs2))) (hT : Tabs 3 1 w0 []) (h6 : Ro w0 [] (Blk b6 182 (vl (.agg #[.slice B1 ls1.length a1, .slice Z1 bs1.length e1])))) (h7 : Ro w0 [] (Blk b7 182 (vl (.agg #[.slice B2 ls2.length a2, .slice Z2 bs2.length e2])))) (h4 : Ro w0 [] (Blk b4 3 [.int .i64 z])) (h5 : Ro w0 [] (Blk b5 22 [.slice A xs.length c])) :
  ∀ w, St w0 [] [] w → Calls prog 142 ((([.bool true] : List Value) ++ (#[.pointer (some ⟨b6, 0, none⟩), .pointer (some ⟨b7, 0, none⟩), .pointer (some ⟨b4, 0, none⟩), .pointer (some ⟨b5, 0, none⟩)] : Array Value).toList).toArray) w (Post w [] (TxQ (zbp z xs ls1 bs1))) := fun w s =>
 zoG b6 b7 b4 b5 z A xs.length c B1 ls1.length a1 Z1 bs1.length e1 B2 ls2.length a2 Z2 bs2.length e2 (zbp z xs ls1 bs1) w (h6.go s (fun b hb => by cases hb)) (h7.go s (fun b hb => by cases hb)) (h4.go s (fun b hb => by cases hb)) (h5.go s (fun b hb => by cases hb)) (fun w2 s2 => zl0 z A c xs hc B1 a1 ls1 Z1 e1 bs1 hb1 he1 w2 hlow ((hR.go s (fun b hb => by cases hb)).go s2 (fun b hb => by cases hb)) ((hB1.go s (fun b hb => by cases hb)).go s2 (fun b hb => by cases hb)) ((hD1.go s (fun b hb => by cases hb)).go s2 (fun b hb => by cases hb)) ((hT.of_go s (fun b hb => by cases hb)).of_go s2 (fun b hb => by cases hb)))
theorem zmX (q1 q2 q3 q4 : Nat) (z : Int) (A : OAd) (n c : Nat) (B1 : OAd) (n1 a1 : Nat) (Z1 : OAd) (m1 e1 : Nat) (B2 : OAd) (n2 a2 : Nat) (Z2 : OAd) (m2 e2 : Nat) (w0 : World) (h1 : Ro w0 [] (Blk q1 182 (vl (.agg #[.slice B1 n1 a1, .slice Z1 m1 e1])))) (h2 : Ro w0 [] (Blk q2 182 (vl (.agg #[.slice B2 n2 a2, .slice Z2 m2 e2])))) (h3 : Ro w0 [] (Blk q3 3 [.int .i64 z])) (h4 : Ro w0 [] (Blk q4 22 [.slice A n c])) (hX : ∀ w, St w0 [] [] w → Calls prog 144 #[.int .i64 z, .slice A n c, .slice B2 n2 a2, .slice Z2 m2 e2] w (Post w [] (TxQ none))) :
  Calls prog 142 #[.bool false, .pointer (some ⟨q1, 0, none⟩), .pointer (some ⟨q2, 0, none⟩), .pointer (some ⟨q3, 0, none⟩), .pointer (some ⟨q4, 0, none⟩)] w0 (Post w0 [] fun v L => TxQ none v L) := by
 refine co 22 [.tmp 6, .tmp 7] func142 ?_
 refine gw ?_
 refine S.r (Qt.load rfl (Ld.all (vs := vl (.agg #[.slice B1 n1 a1, .slice Z1 m1 e1])) (Has.ro h1) rT ce182)) ?_
 refine S.r (Qt.load rfl (Ld.all (vs := vl (.agg #[.slice B2 n2 a2, .slice Z2 m2 e2])) (Has.ro h2) rT ce182)) ?_
 refine S.c0 J143 (fun w hw => Calls.ret (zgG B1 n1 a1 Z1 m1 e1 B2 n2 a2 Z2 m2 e2 w)) (gw ?_)
 intro b8
 refine S.opN rfl (OpV.storeV0 (v := .agg #[.slice B2 n2 a2, .slice Z2 m2 e2]) rfl rfl (by exact ce182) (by rfl) (by rfl) ?_)
 refine gw ?_
 refine S.cn J144 (fun w hw => hX w (hw.sub sn)) ?_
 rintro v L' ⟨k1, rfl, rfl⟩
 refine gw ?_
 refine TC.ret (fR ?_)
 exact ⟨k1, rfl, rfl⟩
theorem zmY (q1 q2 q3 q4 : Nat) (z : Int) (A : OAd) (n c : Nat) (B1 : OAd) (n1 a1 : Nat) (Z1 : OAd) (m1 e1 : Nat) (B2 : OAd) (n2 a2 : Nat) (Z2 : OAd) (m2 e2 : Nat) (a : List (List UInt8)) (w0 : World) (h1 : Ro w0 [] (Blk q1 182 (vl (.agg #[.slice B1 n1 a1, .slice Z1 m1 e1])))) (h2 : Ro w0 [] (Blk q2 182 (vl (.agg #[.slice B2 n2 a2, .slice Z2 m2 e2])))) (h3 : Ro w0 [] (Blk q3 3 [.int .i64 z])) (h4 : Ro w0 [] (Blk q4 22 [.slice A n c])) (hX : ∀ w, St w0 [] [] w → Calls prog 144 #[.int .i64 z, .slice A n c, .slice B2 n2 a2, .slice Z2 m2 e2] w (Post w [] (TxQ (some a)))) :
  Calls prog 142 #[.bool false, .pointer (some ⟨q1, 0, none⟩), .pointer (some ⟨q2, 0, none⟩), .pointer (some ⟨q3, 0, none⟩), .pointer (some ⟨q4, 0, none⟩)] w0 (Post w0 [] fun v L => TxQ (some a) v L) := by
 refine co 22 [.tmp 6, .tmp 7] func142 ?_
 refine gw ?_
 refine S.r (Qt.load rfl (Ld.all (vs := vl (.agg #[.slice B1 n1 a1, .slice Z1 m1 e1])) (Has.ro h1) rT ce182)) ?_
 refine S.r (Qt.load rfl (Ld.all (vs := vl (.agg #[.slice B2 n2 a2, .slice Z2 m2 e2])) (Has.ro h2) rT ce182)) ?_
 refine S.c0 J143 (fun w hw => Calls.ret (zgG B1 n1 a1 Z1 m1 e1 B2 n2 a2 Z2 m2 e2 w)) (gw ?_)
 intro b8
 refine S.opN rfl (OpV.storeV0 (v := .agg #[.slice B2 n2 a2, .slice Z2 m2 e2]) rfl rfl (by exact ce182) (by rfl) (by rfl) ?_)
 refine gw ?_
 refine S.cn J144 (fun w hw => hX w (hw.sub sn)) ?_
 rintro v L' ⟨O1, d1, t1, rfl, rfl, e1, l1⟩
 refine gw ?_
 refine TC.ret (finQ.ret rv (sk (sk (sd sn0))) ?_)
 exact ⟨O1, d1, t1, rfl, rfl, e1, l1⟩
theorem zmZ (q1 q2 q3 q4 : Nat) (z : Int) (A : OAd) (n c : Nat) (B1 : OAd) (n1 a1 : Nat) (Z1 : OAd) (m1 e1 : Nat) (B2 : OAd) (n2 a2 : Nat) (Z2 : OAd) (m2 e2 : Nat) (X : Option (List (List UInt8))) (w0 : World) (h1 : Ro w0 [] (Blk q1 182 (vl (.agg #[.slice B1 n1 a1, .slice Z1 m1 e1])))) (h2 : Ro w0 [] (Blk q2 182 (vl (.agg #[.slice B2 n2 a2, .slice Z2 m2 e2])))) (h3 : Ro w0 [] (Blk q3 3 [.int .i64 z])) (h4 : Ro w0 [] (Blk q4 22 [.slice A n c])) (hX : ∀ w, St w0 [] [] w → Calls prog 144 #[.int .i64 z, .slice A n c, .slice B2 n2 a2, .slice Z2 m2 e2] w (Post w [] (TxQ X))) :
  Calls prog 142 #[.bool false, .pointer (some ⟨q1, 0, none⟩), .pointer (some ⟨q2, 0, none⟩), .pointer (some ⟨q3, 0, none⟩), .pointer (some ⟨q4, 0, none⟩)] w0 (Post w0 [] (TxQ X)) := by
 cases X with
 | none => exact zmX q1 q2 q3 q4 z A n c B1 n1 a1 Z1 m1 e1 B2 n2 a2 Z2 m2 e2 w0 h1 h2 h3 h4 hX
 | some a => exact zmY q1 q2 q3 q4 z A n c B1 n1 a1 Z1 m1 e1 B2 n2 a2 Z2 m2 e2 a w0 h1 h2 h3 h4 hX
theorem zjx (b4 b5 b6 b7 : Nat) (z : Int) (A : OAd) (c : Nat) (xs : List Nat) (hc : xs.length ≤ c) (B1 : OAd) (a1 : Nat) (ls1 : List H32) (Z1 : OAd) (e1 : Nat) (bs1 : List H32) (B2 : OAd) (a2 : Nat) (ls2 : List H32) (Z2 : OAd) (e2 : Nat) (bs2 : List H32) (hb1 : ls1.length ≤ a1) (he1 : bs1.length ≤ e1) (hb2 : ls2.length ≤ a2) (he2 : bs2.length ≤ e2) (w0 : World) (hlow : ∀ x ∈ xs, x < 18446744073709551616) (hR : Ro w0 [] (SlA A (u64s xs))) (hB1 : Ro w0 [] (SlA B1 (hcs ls1))) (hD1 : Ro w0 [] (SlA Z1 (hcs bs1))) (hB2 : Ro w0 [] (SlA B2 (hcs ls2))) (hD2 : Ro w0 [] (SlA Z2 (hcs bs2))) (hT : Tabs 3 1 w0 []) (h6 : Ro w0 [] (Blk b6 182 (vl (.agg #[.slice B1 ls1.length a1, .slice Z1 bs1.length e1])))) (h7 : Ro w0 [] (Blk b7 182 (vl (.agg #[.slice B2 ls2.length a2, .slice Z2 bs2.length e2])))) (h4 : Ro w0 [] (Blk b4 3 [.int .i64 z])) (h5 : Ro w0 [] (Blk b5 22 [.slice A xs.length c])) :
  ∀ w, St w0 [] [] w → Calls prog 142 ((([.bool false] : List Value) ++ (#[.pointer (some ⟨b6, 0, none⟩), .pointer (some ⟨b7, 0, none⟩), .pointer (some ⟨b4, 0, none⟩), .pointer (some ⟨b5, 0, none⟩)] : Array Value).toList).toArray) w (Post w [] (TxQ (zbp z xs ls2 bs2))) := fun w s =>
 zmZ b6 b7 b4 b5 z A xs.length c B1 ls1.length a1 Z1 bs1.length e1 B2 ls2.length a2 Z2 bs2.length e2 (zbp z xs ls2 bs2) w (h6.go s (fun b hb => by cases hb)) (h7.go s (fun b hb => by cases hb)) (h4.go s (fun b hb => by cases hb)) (h5.go s (fun b hb => by cases hb)) (fun w2 s2 => zl0 z A c xs hc B2 a2 ls2 Z2 e2 bs2 hb2 he2 w2 hlow ((hR.go s (fun b hb => by cases hb)).go s2 (fun b hb => by cases hb)) ((hB2.go s (fun b hb => by cases hb)).go s2 (fun b hb => by cases hb)) ((hD2.go s (fun b hb => by cases hb)).go s2 (fun b hb => by cases hb)) ((hT.of_go s (fun b hb => by cases hb)).of_go s2 (fun b hb => by cases hb)))
theorem zdS (z : Int) (A : OAd) (c : Nat) (xs : List Nat) (hc : xs.length ≤ c) (B1 : OAd) (a1 : Nat) (ls1 : List H32) (Z1 : OAd) (e1 : Nat) (bs1 : List H32) (B2 : OAd) (a2 : Nat) (ls2 : List H32) (Z2 : OAd) (e2 : Nat) (bs2 : List H32) (hb1 : ls1.length ≤ a1) (he1 : bs1.length ≤ e1) (hb2 : ls2.length ≤ a2) (he2 : bs2.length ≤ e2) (w0 : World) (hlow : ∀ x ∈ xs, x < 18446744073709551616) (hR : Ro w0 [] (SlA A (u64s xs))) (hB1 : Ro w0 [] (SlA B1 (hcs ls1))) (hD1 : Ro w0 [] (SlA Z1 (hcs bs1))) (hB2 : Ro w0 [] (SlA B2 (hcs ls2))) (hD2 : Ro w0 [] (SlA Z2 (hcs bs2))) (hT : Tabs 3 1 w0 []) :
  Calls prog 84 #[.int .i64 z, .slice A xs.length c, .agg #[.slice B1 ls1.length a1, .slice Z1 bs1.length e1], .agg #[.slice B2 ls2.length a2, .slice Z2 bs2.length e2]] w0 (Post w0 [] fun v L => PxQ 114 (zbl (zbp z xs ls1 bs1) (zbp z xs ls2 bs2)) v L) := by
 refine co 11 [.tmp 8] func84 ?_
 refine gw ?_
 intro b4
 refine gw ?_
 intro b5
 refine gw ?_
 intro b6
 refine gw ?_
 intro b7
 refine gw ?_
 refine S.r (Qt.makeFuncL (fs := []) (cs := [.pointer (some ⟨b6, 0, none⟩), .pointer (some ⟨b7, 0, none⟩), .pointer (some ⟨b4, 0, none⟩), .pointer (some ⟨b5, 0, none⟩)]) rfl rfl) ?_
 refine S.cn J45 (fun w hw => zlY 142 #[.pointer (some ⟨b6, 0, none⟩), .pointer (some ⟨b7, 0, none⟩), .pointer (some ⟨b4, 0, none⟩), .pointer (some ⟨b5, 0, none⟩)] J142 (zbp z xs ls1 bs1) (zbp z xs ls2 bs2) w (zkT b4 b5 b6 b7 z A c xs hc B1 a1 ls1 Z1 e1 bs1 B2 a2 ls2 Z2 e2 bs2 hb1 he1 hb2 he2 w hlow (Rd.ro hR w hw) (Rd.ro hB1 w hw) (Rd.ro hD1 w hw) (Rd.ro hB2 w hw) (Rd.ro hD2 w hw) (hT.at hw) (Rd.at 1 rfl w hw) (Rd.at 0 rfl w hw) (Rd.at 3 rfl w hw) (Rd.at 2 rfl w hw)) (zjx b4 b5 b6 b7 z A c xs hc B1 a1 ls1 Z1 e1 bs1 B2 a2 ls2 Z2 e2 bs2 hb1 he1 hb2 he2 w hlow (Rd.ro hR w hw) (Rd.ro hB1 w hw) (Rd.ro hD1 w hw) (Rd.ro hB2 w hw) (Rd.ro hD2 w hw) (hT.at hw) (Rd.at 1 rfl w hw) (Rd.at 0 rfl w hw) (Rd.at 3 rfl w hw) (Rd.at 2 rfl w hw))) ?_
 rintro v L' ⟨O, d, pp, Ls, rfl, rfl, q1, q2, q3⟩
 refine gw ?_
 refine TC.ret (fin1 (sk (sk (sd (sd (sd (sd sn0)))))) ?_)
 exact ⟨O, d, pp, Ls, rfl, rfl, q1, q2, q3⟩
end Go.Proofs.YtgdjcmehlhebdaaGreatDoor
