/- Walks: the document's texts of paths, pairs of two sources -/
import Derived.Test.YtgdjcmehlhebdaaGreatDoorY7
set_option maxHeartbeats 25600000
set_option linter.all false
namespace Go.Proofs.YtgdjcmehlhebdaaGreatDoor
open _root_.Go.Proofs.Tryz
open Go.E
set_option maxRecDepth 4000
theorem zaT (x : i6) (i : Nat) (A) (c : Nat) (ps : List i6) (hi : i < 18446744073709551616) (hf : ¬ dA i ps.length) (w0) :
  cP 157 #[uI i, hv x, sL A ps.length c] w0 fun v L => tN none v L := by
 refine co 50 [.tmp 6, .tmp 7] func157 ?_
 refine gw ?_
 intro b4
 refine gw ?_
 refine u7 en (fun w hw => zje i ps.length hi hf w) (gw ?_)
 exact tR
theorem zbA (x : i6) (i : Nat) (A) (c : Nat) (ps : List i6) (hi : i < 18446744073709551616) (hf : dA i ps.length) (w0) (hR : Ro w0 [] (SlA A (m9 ps))) (hT : Tabs 2 0 w0 []) :
  cP 157 #[uI i, hv x, sL A ps.length c] w0 fun v L => tN (some (HC x i ps)) v L := by
 refine co 50 [.tmp 6, .tmp 7] func157 ?_
 have hf1 := hf.1
 refine gw ?_
 intro b4
 refine gw ?_
 refine u7 en (fun w hw => zjf i ps.length hi hf w) (gw ?_)
 refine m6 112 1 (x3 ?_)
 refine l5 (γ := Nat × y8 × List Tx × Nat) (mr 16 33 [0, 8, 9, 10]) (fun g => [(9, iI g.1), (0, uI (i / 2 ^ g.1 : Nat)), (8, sL g.2.1 g.2.2.1.length g.2.2.2)]) (fun g => [OwnA 112 1 g.2.1 (g.2.2.1).length g.2.2.2 ((g.2.2.1).flatMap aI), C1 ((g.2.2.1).map u3), Blk b4 49 (L8 (w9 x i ps g.1))]) (fun g => g.1 ≤ ps.length ∧ g.2.2.1.map (fun t => t.2.2) = (List.range g.1).map (mN x i ps)) (fun g => ps.length - g.1) ((0, none, [], 0))
  ⟨Nat.zero_le _, rfl⟩ ⟨Out.refl _ _, (fm rfl (fm (by show uI i = uI (i / 2 ^ 0 : Nat); rw [Nat.pow_zero, Nat.div_one]) ag))⟩ sp ?_
 rintro ⟨k, O, tt, d⟩ u ⟨hk, htt⟩
 dsimp only at hk htt
 have htl : tt.length = k := by have := congrArg List.length htt; simpa using this
 show TC _ _ _ (puts [(9, iI k), (0, uI (i / 2 ^ k : Nat)), (8, sL O tt.length d)] (scr _ u _)) [OwnA 112 1 O (tt).length d ((tt).flatMap aI), C1 ((tt).map u3), Blk b4 49 (L8 (w9 x i ps k))]
 refine gw ?_
 refine j0 rfl rfl (p9 rfl rfl) (fun h19 => gw ?_) (fun h19 => gw ?_)
 ·refine dw ([], [7]) (gw ?_)
  refine c6 5 rfl (i5 uT cT rfl rfl ow (c9 hR) (by rw [m7]; omega)) (c6 6 rfl (a8 rfl (E4 (c9 hR) k rT ce49 ow rfl)) (P5 7 rfl en (fun w hw => Z5 (k + 1) ow (w9 x i ps k) (ps.getD k e7) w) ?_))
  rintro v L' ⟨Oa, da, rfl, rfl⟩
  refine gw ?_
  refine p7 (gw ?_)
  refine e6 (V9 (b := 2) rfl rfl ow) (j0 rfl rfl (z6 (b := 1) rfl rfl) (fun h32 => gw ?_) (fun h32 => gw ?_))
  ·refine dw ([], [7]) (gw ?_)
   refine c6 4 rfl (i5 uT cT rfl rfl ow (c9 hR) (by rw [m7]; omega)) (c6 5 rfl (a8 rfl (E4 (c9 hR) k rT ce49 ow rfl)) (gw ?_))
   refine P5 7 rfl en (fun w hw => Z5 (k + 1) ow (ps.getD k e7) (w9 x i ps k) w) ?_
   rintro v L' ⟨Ob, db, rfl, rfl⟩
   refine gw ?_
   refine p7 (gw ?_)
   refine T4 (pc pm2) (gw ?_)
   refine z7 (m5 (v := sL Ob (x5 (k + 1) (ps.getD k e7) (w9 x i ps k)).length db) uT elem112 dc rfl rfl (fun g43 => (z7 (S9 (news := [sL Ob (x5 (k + 1) (ps.getD k e7) (w9 x i ps k)).length db]) uT elem112 rfl rfl (j8 (cs := [sL Ob (x5 (k + 1) (ps.getD k e7) (w9 x i ps k)).length db]) w5) rfl (by intro u hu; rw [List.mem_singleton.1 hu]; rfl) kx ow (fun O3 d3 => (gw ?_))))))
   refine u7 en (fun w hw => (by have q := cQ (Y2 Ob db (x5 (k + 1) (ps.getD k e7) (w9 x i ps k)) w (Rd.own (e := 5) (sz := 1) (Rd.many (A := OwnA 5 1 Ob (x5 (k + 1) (ps.getD k e7) (w9 x i ps k)).length db (e9 (x5 (k + 1) (ps.getD k e7) (w9 x i ps k)))) (Rd.at 1 rfl) (List.mem_append.2 (.inr (List.mem_singleton.2 rfl)))) w hw) (by rw [L9]; decide) (hT.at hw)); rw [show K3 (x5 (k + 1) (ps.getD k e7) (w9 x i ps k)) = w9 x i ps (k + 1) from (qB h32).symm] at q; exact q : cR 57 #[sL Ob (x5 (k + 1) (ps.getD k e7) (w9 x i ps k)).length db] w (hv (w9 x i ps (k + 1))))) ?_
   refine j9 rfl (fK (v := hv (w9 x i ps (k + 1))) rfl rfl (o5 ce49) (N7 _) (by rw [v9, l6]) (gw ?_))
   refine e6 (n8 (I2 (b := 2) rfl rfl ow (by have := Nat.div_le_self i (2 ^ k); simp only [H1]; omega)) (by rw [v8])) (gw ?_)
   refine ⟨(k + 1, O3, tt ++ [(Ob, db, x5 (k + 1) (ps.getD k e7) (w9 x i ps k))], d3), ?_, ?_, ⟨?_, (fm rfl (fm rfl (fm (by show sL O3 (tt.length + 1) d3 = sL O3 (tt ++ [_]).length d3; rw [List.length_append]; rfl) nb)))⟩, (by dsimp only; simp only [List.length_append, List.flatMap_append, List.map_append]; exact sp)⟩
   ·exact ⟨by show _ ≤ _; dsimp only; omega, by dsimp only; rw [List.map_append, htt, List.range_succ, List.map_append, List.map_singleton, List.map_singleton]; unfold mN; rw [if_pos h32]⟩
   ·show _ < _; dsimp only; omega
   exact K8
  ·refine T4 (pc pm1) (gw ?_)
   refine z7 (m5 (v := sL Oa (x5 (k + 1) (w9 x i ps k) (ps.getD k e7)).length da) uT elem112 dc rfl rfl (fun g43 => (z7 (Q1 (news := [sL Oa (x5 (k + 1) (w9 x i ps k) (ps.getD k e7)).length da]) uT elem112 rfl rfl (j8 (cs := [sL Oa (x5 (k + 1) (w9 x i ps k) (ps.getD k e7)).length da]) w5) rfl (by intro u hu; rw [List.mem_singleton.1 hu]; rfl) kx ow (fun O3 d3 => (gw ?_))))))
   refine u7 en (fun w hw => (by have q := cQ (Y2 Oa da (x5 (k + 1) (w9 x i ps k) (ps.getD k e7)) w (Rd.own (e := 5) (sz := 1) (Rd.many (A := OwnA 5 1 Oa (x5 (k + 1) (w9 x i ps k) (ps.getD k e7)).length da (e9 (x5 (k + 1) (w9 x i ps k) (ps.getD k e7)))) (Rd.at 1 rfl) (List.mem_append.2 (.inr (List.mem_singleton.2 rfl)))) w hw) (by rw [L9]; decide) (hT.at hw)); rw [show K3 (x5 (k + 1) (w9 x i ps k) (ps.getD k e7)) = w9 x i ps (k + 1) from (mW h32).symm] at q; exact q : cR 57 #[sL Oa (x5 (k + 1) (w9 x i ps k) (ps.getD k e7)).length da] w (hv (w9 x i ps (k + 1))))) ?_
   refine j9 rfl (R5 (v := hv (w9 x i ps (k + 1))) rfl rfl (o5 ce49) (N7 _) (by rw [v9, l6]) (gw ?_))
   refine e6 (n8 (I2 (b := 2) rfl rfl ow (by have := Nat.div_le_self i (2 ^ k); simp only [H1]; omega)) (by rw [v8])) (gw ?_)
   refine ⟨(k + 1, O3, tt ++ [(Oa, da, x5 (k + 1) (w9 x i ps k) (ps.getD k e7))], d3), ?_, ?_, ⟨?_, (fm rfl (fm rfl (fm (by show sL O3 (tt.length + 1) d3 = sL O3 (tt ++ [_]).length d3; rw [List.length_append]; rfl) nb)))⟩, (by dsimp only; simp only [List.length_append, List.flatMap_append, List.map_append]; exact sp)⟩
   ·exact ⟨by show _ ≤ _; dsimp only; omega, by dsimp only; rw [List.map_append, htt, List.range_succ, List.map_append, List.map_singleton, List.map_singleton]; unfold mN; rw [if_neg h32]⟩
   ·show _ < _; dsimp only; omega
   exact K8
 ·refine i7 (c8 (gw ?_))
  refine a9 (finQ.ret rv (sx [0, 0]) ?_)
  obtain rfl : k = ps.length := by omega
  exact ⟨O, d, tt, rfl, rfl, htt, by omega⟩
theorem zdl (fn : FuncId) (cap : Array Value) (hent : p8 prog fn) (X2 : Option (List (List UInt8)))  (w0) (h1 : ∀ w, St w0 [] [] w → cP fn ((([.bool true] : List Value) ++ cap.toList).toArray) w (X8 none)) (h2 : ∀ w, St w0 [] [] w → cP fn ((([.bool false] : List Value) ++ cap.toList).toArray) w (X8 X2)) :
  cP 45 #[.func (.func fn) #[] cap] w0 fun v L => fF 114 (D4 none X2) v L := by
 refine co 48 [.tmp 2] func45 ?_
 refine m6 114 2 (x3 (gw ?_))
 refine z7 (l8 (Pre := []) (R := _) hent rfl pr (fun w hw => h1 w (hw.sub sn)) ?_)
 rintro v L' ⟨k1, rfl, rfl⟩
 refine gw ?_
 refine a9 (D7 (sy [1]) ?_)
 exact ⟨none, 0, [], [], rfl, rfl, rfl, Nat.zero_le _, fun p hp => nomatch hp⟩
theorem zch (fn : FuncId) (cap : Array Value) (hent : p8 prog fn) (a : List (List UInt8))  (w0) (h1 : ∀ w, St w0 [] [] w → cP fn ((([.bool true] : List Value) ++ cap.toList).toArray) w (X8 (some a))) (h2 : ∀ w, St w0 [] [] w → cP fn ((([.bool false] : List Value) ++ cap.toList).toArray) w (X8 none)) :
  cP 45 #[.func (.func fn) #[] cap] w0 fun v L => fF 114 (D4 (some a) none) v L := by
 refine co 48 [.tmp 2] func45 ?_
 refine m6 114 2 (x3 (gw ?_))
 refine z7 (l8 (Pre := []) (R := _) hent rfl pr (fun w hw => h1 w (hw.sub sn)) ?_)
 rintro v L' ⟨O1, d1, t1, rfl, rfl, e1, l1⟩
 have n1 := congrArg List.length e1
 rw [List.length_map] at n1
 refine gw ?_
 refine z7 (l8 (Pre := []) (R := _) hent rfl pr (fun w hw => h2 w (hw.sub sn)) ?_)
 rintro v L' ⟨k2, rfl, rfl⟩
 refine gw ?_
 refine a9 (D7 (sx [3, 2]) ?_)
 exact ⟨none, 0, [], [], rfl, rfl, rfl, Nat.zero_le _, fun p hp => nomatch hp⟩
theorem zdk (fn : FuncId) (cap : Array Value) (hent : p8 prog fn) (a b : List (List UInt8)) (hl : a.length ≠ b.length) (w0) (h1 : ∀ w, St w0 [] [] w → cP fn ((([.bool true] : List Value) ++ cap.toList).toArray) w (X8 (some a))) (h2 : ∀ w, St w0 [] [] w → cP fn ((([.bool false] : List Value) ++ cap.toList).toArray) w (X8 (some b))) :
  cP 45 #[.func (.func fn) #[] cap] w0 fun v L => fF 114 (D4 (some a) (some b)) v L := by
 refine co 48 [.tmp 2] func45 ?_
 refine m6 114 2 (x3 (gw ?_))
 refine z7 (l8 (Pre := []) (R := _) hent rfl pr (fun w hw => h1 w (hw.sub sn)) ?_)
 rintro v L' ⟨O1, d1, t1, rfl, rfl, e1, l1⟩
 have n1 := congrArg List.length e1
 rw [List.length_map] at n1
 refine gw ?_
 refine z7 (l8 (Pre := []) (R := _) hent rfl pr (fun w hw => h2 w (hw.sub sn)) ?_)
 rintro v L' ⟨O2, d2, t2, rfl, rfl, e2, l2⟩
 have n2 := congrArg List.length e2
 rw [List.length_map] at n2
 refine gw ?_
 refine E8 rfl rfl rfl (Qt.dT (C7 rfl rfl) ow) (gw ?_)
 refine a9 (D7 (sx [5, 4]) ?_)
 exact ⟨none, 0, [], [], rfl, rfl, (HV hl).symm, Nat.zero_le _, fun p hp => nomatch hp⟩
theorem zdj (fn : FuncId) (cap : Array Value) (hent : p8 prog fn) (a b : List (List UInt8)) (hl : a.length = b.length) (w0 : World) (h1 : ∀ w, St w0 [] [] w → Calls prog fn ((([.bool true] : List Value) ++ cap.toList).toArray) w (D0 w [] (X8 (some a)))) (h2 : ∀ w, St w0 [] [] w → Calls prog fn ((([.bool false] : List Value) ++ cap.toList).toArray) w (D0 w [] (X8 (some b)))) :
    Calls prog 45 #[.func (.func fn) #[] cap] w0 (D0 w0 [] fun v L => fF 114 (D4 (some a) (some b)) v L) := by
  refine N4 (L := []) (n := 48) (rs := [.tmp 2]) func45 rfl rfl rfl (Nat.le_of_ble_eq_true rfl) (Sat.nil _) ?_
  refine m6 114 2 ?_
  refine x3 ?_
  refine c8 ?_
  refine c7 ?_
  refine C3 ?_
  refine l3 ?_
  refine c8 ?_
  refine c7 ?_
  refine o8 ?_
  refine z7 (l8 (Pre := []) (R := _) hent rfl pr (fun w hw => h1 w (hw.sub sn)) ?_)
  rintro v L' ⟨O1, d1, t1, rfl, rfl, e1, l1⟩
  have n1 := congrArg List.length e1
  rw [List.length_map] at n1
  refine o8 ?_
  refine e6 (s8 rfl rfl) ?_
  refine e6 (s8 rfl rfl) ?_
  refine C3 ?_
  refine C3 ?_
  refine l3 ?_
  refine c8 ?_
  refine c8 ?_
  refine c7 ?_
  refine o8 ?_
  refine e6 (F0 uT rfl) ?_
  refine l3 ?_
  refine C4 rfl ?_
  refine w8 ?_
  refine c8 ?_
  refine c7 ?_
  refine o8 ?_
  refine z7 (l8 (Pre := []) (R := _) hent rfl pr (fun w hw => h2 w (hw.sub sn)) ?_)
  rintro v L' ⟨O2, d2, t2, rfl, rfl, e2, l2⟩
  have n2 := congrArg List.length e2
  rw [List.length_map] at n2
  refine o8 ?_
  refine e6 (s8 rfl rfl) ?_
  refine e6 (s8 rfl rfl) ?_
  refine C3 ?_
  refine C3 ?_
  refine l3 ?_
  refine c8 ?_
  refine c8 ?_
  refine c7 ?_
  refine o8 ?_
  refine e6 (F0 uT rfl) ?_
  refine o8 ?_
  refine E8 rfl rfl rfl (m8 cw) ?_
  refine E8 rfl rfl rfl (D6 uT rfl) ?_
  refine E8 rfl rfl rfl (m8 cw) ?_
  refine E8 rfl rfl rfl (D6 uT rfl) ?_
  refine E8 rfl rfl rfl (Qt.dF (C7 rfl rfl) ow) ?_
  refine e6 (X7 rfl cw) ?_
  refine l3 ?_
  refine C4 rfl ?_
  refine w8 ?_
  refine c8 ?_
  refine c7 ?_
  refine C3 ?_
  refine l3 ?_
  refine c8 ?_
  refine c8 ?_
  refine c7 ?_
  refine o8 ?_
  refine e6 (D6 uT rfl) ?_
  refine o8 ?_
  refine l3 ?_
  refine C5 ?_
  refine l5 (γ := Nat × y8 × Nat) [32, 33, 7, 34, 35, 36, 37, 38, 39, 40, 41, 42, 43, 44, 45, 6, 46, 31] (fun g => [(31, .int .i64 ((g.1 : Nat) : Int)), (6, .slice g.2.1 g.1 g.2.2)]) (fun g => [OwnA 114 2 g.2.1 g.1 g.2.2 (((t1.take g.1).zip (t2.take g.1)).flatMap aZ), OwnA 112 1 O1 t1.length d1 (t1.flatMap aI), C1 (t1.map u3), OwnA 112 1 O2 t2.length d2 (t2.flatMap aI), C1 (t2.map u3)]) (fun g => g.1 ≤ t1.length) (fun g => t1.length - g.1) ((0, none, 0))
    (Nat.zero_le _) ⟨Out.refl _ _, (List.forall_mem_cons.2 ⟨rfl, (List.forall_mem_cons.2 ⟨rfl, (fun _ h => nomatch h)⟩)⟩)⟩ (Sub.trans (sk (sk (sk (sk (sk (sd I8)))))) (Sub.trans (sk (Sub.trans (sk (Sub.trans (sk sr) (e5 pm2))) (e5 pm2))) (e5 pm5))) ?_
  rintro ⟨k, O, d⟩ u hk
  dsimp only at hk
  show TC _ _ _ (puts [(31, .int .i64 (k : Int)), (6, .slice O k d)] (scr _ u _)) [OwnA 114 2 O k d (((t1.take k).zip (t2.take k)).flatMap aZ), OwnA 112 1 O1 t1.length d1 (t1.flatMap aI), C1 (t1.map u3), OwnA 112 1 O2 t2.length d2 (t2.flatMap aI), C1 (t2.map u3)]
  refine c8 ?_
  refine c7 ?_
  refine j0 rfl rfl (p9 rfl rfl) (fun h32 => ?_) (fun h32 => ?_)
  · refine l3 ?_
    refine c8 ?_
    refine Q3 rfl ?_
    refine w8 ?_
    refine c8 ?_
    refine C5 ?_
    refine c8 ?_
    refine c7 ?_
    refine o8 ?_
    refine C3 ?_
    refine l3 ?_
    refine D1 ([11], [10]) mixed (sd (sk (sk (sk (sk I8))))) ?_
    refine c6 0 rfl (m8 cw) ?_
    refine c6 1 rfl (m8 cw) ?_
    refine c6 2 rfl (m8 cw) ?_
    refine c6 3 rfl (i5 uT cT rfl rfl ow (x8 N3) (by rw [mB]; omega)) ?_
    refine c6 4 rfl (a8 rfl (A9 (v := .slice (t1.getD k X3).1 (t1.getD k X3).2.2.length (t1.getD k X3).2.1) (x8 N3) oT (xV ow))) ?_
    refine c6 5 rfl (m8 cw) ?_
    refine c6 6 rfl (m8 cw) ?_
    refine c6 7 rfl (i5 uT cT rfl rfl ow (x8 tV) (by rw [mB]; omega)) ?_
    refine c6 8 rfl (a8 rfl (A9 (v := .slice (t2.getD k X3).1 (t2.getD k X3).2.2.length (t2.getD k X3).2.1) (x8 tV) oT (xV ow))) ?_
    refine c6 9 rfl (A5 (a := .slice (t1.getD k X3).1 (t1.getD k X3).2.2.length (t1.getD k X3).2.1) (b := .slice (t2.getD k X3).1 (t2.getD k X3).2.2.length (t2.getD k X3).2.1) rfl rfl (build66 _ _ _ _ _ _)) ?_
    refine tH (k := 10) (sd (sk (sk (sk (sk I8))))) rfl (by kernel_rfl) (by kernel_rfl) rfl rfl (m5 (bytes := 48) (v := .agg #[.slice (t1.getD k X3).1 (t1.getD k X3).2.2.length (t1.getD k X3).2.1, .slice (t2.getD k X3).1 (t2.getD k X3).2.2.length (t2.getD k X3).2.1]) uT elem114 (by decide) rfl rfl (fun gp => ⟨sd (sk (sk (sk (sk (sk I8))))), ?_⟩))
    refine FZ (k := 11) (sd (sd (sk (sk (sk (sk I8)))))) rfl (by kernel_rfl) (by kernel_rfl) rfl rfl (G1 (bytes := 48) (news := [.slice (t1.getD k X3).1 (t1.getD k X3).2.2.length (t1.getD k X3).2.1, .slice (t2.getD k X3).1 (t2.getD k X3).2.2.length (t2.getD k X3).2.1]) uT elem114 rfl rfl (j8 (cs := [.slice (t1.getD k X3).1 (t1.getD k X3).2.2.length (t1.getD k X3).2.1, .slice (t2.getD k X3).1 (t2.getD k X3).2.2.length (t2.getD k X3).2.1]) w5) rfl CI (by simp only [maxLen]; omega) ow (fun O3 d3 => ⟨sd (sd (sk (sk (sk (sk I8))))), ?_⟩))
    refine c6 12 rfl (G9 cw) ?_
    refine R2 (sd (sd (sk (sk (sk (sk I8)))))) (by kernel_rfl) ?_
    refine c7 ?_
    refine e6 (v4 (b := 1) rfl rfl km) ?_
    refine o8 ?_
    refine l3 ?_
    refine ⟨(k + 1, O3, d3), ?_, ?_, ⟨?_, (List.forall_mem_cons.2 ⟨rfl, (List.forall_mem_cons.2 ⟨rfl, (fun _ h => nomatch h)⟩)⟩)⟩, (by dsimp only; rw [FK ow ow, List.flatMap_append]; exact Sub.trans (sk (sk (sk (sk (sk (sd I8)))))) (Sub.trans (sk (Sub.trans (sk (Sub.trans (sk (Sub.trans (sk (Sub.trans (sk sr) (e5 pm1))) (e5 pm1))) (e5 pm1))) (e5 pm1))) (e5 pm1)))⟩
    · show _ ≤ _; dsimp only; omega
    · show _ < _; dsimp only; omega
    repeat (first | exact Out.refl _ _ | refine Out.put rfl ?_ | refine U3 rfl ?_ | refine Out.scr ?_ | refine X4 rfl ?_)
  · refine l3 ?_
    refine c8 ?_
    refine C4 rfl ?_
    refine i7 ?_
    refine c8 ?_
    refine c7 ?_
    refine eL (pm2.trans (pc pm3)) ?_
    refine o8 ?_
    refine C3 ?_
    refine l3 ?_
    refine a9 (finQ.ret rv (Sub.trans (sk (sk (sd (sd I8)))) (Sub.trans (sk sr) (e5 pm1))) ?_)
    obtain rfl : k = t1.length := by omega
    have hz := FJ t1 t2 (Nat.le_refl _) ow
    have hE : dE t1 t2 = CL t1 t2 := if_pos ow
    have hl : (dE t1 t2).length = t1.length := by rw [hE, CL, List.length_zip]; omega
    refine ⟨O, d, dE t1 t2, t1.map u3 ++ t2.map u3, by rw [hl]; rfl, by rw [hl, hE, ← hz], ?_, by omega, pT⟩
    rw [CK, e1, e2]; rfl
theorem BH (fn : FuncId) (cap : Array Value) (hent : p8 prog fn) (X1 X2 : Option (List (List UInt8))) (w0) (h1 : ∀ w, St w0 [] [] w → cP fn ((([.bool true] : List Value) ++ cap.toList).toArray) w (X8 X1)) (h2 : ∀ w, St w0 [] [] w → cP fn ((([.bool false] : List Value) ++ cap.toList).toArray) w (X8 X2)) :
  cP 45 #[.func (.func fn) #[] cap] w0 fun v L => fF 114 (D4 X1 X2) v L := by
 cases X1 with
 | none => exact zdl fn cap hent X2 w0 h1 h2
 | some a => cases X2 with
  | none => exact zch fn cap hent a w0 h1 h2
  | some b =>
   by_cases hl : a.length = b.length
   ·exact zdj fn cap hent a b hl w0 h1 h2
   ·exact zdk fn cap hent a b hl w0 h1 h2
theorem zcH (A) (c : Nat) (t1 : List Tx) (B) (e : Nat) (t2 : List Tx) (hl : t1.length = t2.length) (hm : t1.length ≤ 16384) (w0) (hA : Ro w0 [] (SlA A (t1.flatMap aI))) (hB : Ro w0 [] (SlA B (t2.flatMap aI))) :
  cP 62 #[sL A t1.length c, sL B t2.length e] w0 fun v L => ∃ (O : y8) (d : Nat), v = sL O (dE t1 t2).length d ∧ L = [OwnA 115 2 O (dE t1 t2).length d ((dE t1 t2).flatMap aZ)] := by
 refine co 33 [.tmp 4] func62 ?_
 refine gw ?_
 refine m6 115 2 ?_
 refine l5 (γ := Nat × y8 × Nat) (mr 5 27 []) (fun g => [(6, iI g.1), (5, sL g.2.1 g.1 g.2.2)]) (fun g => [OwnA 115 2 g.2.1 g.1 g.2.2 (((t1.take g.1).zip (t2.take g.1)).flatMap aZ)]) (fun g => g.1 ≤ t1.length) (fun g => t1.length - g.1) ((0, none, 0))
  (Nat.zero_le _) oa sr ?_
 rintro ⟨k, O, d⟩ u hk
 dsimp only at hk
 show TC _ _ _ (puts [(6, iI k), (5, sL O k d)] (scr _ u _)) [OwnA 115 2 O k d (((t1.take k).zip (t2.take k)).flatMap aZ)]
 refine gw ?_
 refine j0 rfl rfl (p9 rfl rfl) (fun h10 => gw ?_) (fun h10 => gw ?_)
 ·refine E8 rfl rfl rfl (Qt.dT (z6 rfl rfl) (hl)) (gw ?_)
  refine dw ([11], [10]) (gw ?_)
  refine c6 3 rfl (i5 uT cT rfl rfl ow (c9 hA) (by rw [mB]; omega)) (c6 4 rfl (a8 rfl (A9 (v := sL (t1.getD k X3).1 (t1.getD k X3).2.2.length (t1.getD k X3).2.1) (c9 hA) oT (xV ow))) (gw ?_))
  refine c6 7 rfl (i5 uT cT rfl rfl ow (c9 hB) (by rw [mB]; omega)) (c6 8 rfl (a8 rfl (A9 (v := sL (t2.getD k X3).1 (t2.getD k X3).2.2.length (t2.getD k X3).2.1) (c9 hB) oT (xV ow))) (c6 9 rfl (A5 (a := sL (t1.getD k X3).1 (t1.getD k X3).2.2.length (t1.getD k X3).2.1) (b := sL (t2.getD k X3).1 (t2.getD k X3).2.2.length (t2.getD k X3).2.1) rfl rfl (build77 _ _ _ _ _ _)) (aO 10 rfl (m5 (v := .agg #[sL (t1.getD k X3).1 (t1.getD k X3).2.2.length (t1.getD k X3).2.1, sL (t2.getD k X3).1 (t2.getD k X3).2.2.length (t2.getD k X3).2.1]) uT elem115 dc rfl rfl (fun gp => (G0 ?_))))))
  refine V5 11 rfl (G1 (news := [sL (t1.getD k X3).1 (t1.getD k X3).2.2.length (t1.getD k X3).2.1, sL (t2.getD k X3).1 (t2.getD k X3).2.2.length (t2.getD k X3).2.1]) uT elem115 rfl rfl (j8 (cs := [sL (t1.getD k X3).1 (t1.getD k X3).2.2.length (t1.getD k X3).2.1, sL (t2.getD k X3).1 (t2.getD k X3).2.2.length (t2.getD k X3).2.1]) w5) rfl CI kx ow (fun O3 d3 => (G0 (gw ?_))))
  refine p7 (gw ?_)
  exact ⟨(k + 1, O3, d3), od, od, oz, (by dsimp only; rw [FK ow ow, List.flatMap_append]; exact sp)⟩
 ·refine i7 (c8 (gw ?_))
  refine a9 (D7 sr ?_)
  obtain rfl : k = t1.length := by omega
  have hz := FJ t1 t2 (Nat.le_refl _) ow
  have hE : dE t1 t2 = CL t1 t2 := if_pos ow
  have hl2 : (dE t1 t2).length = t1.length := by rw [hE, CL, List.length_zip]; omega
  exact ⟨O, d, by rw [hl2]; rfl, by rw [hl2, hE, ← hz]⟩
theorem zcI (A) (c : Nat) (t1 : List Tx) (B) (e : Nat) (t2 : List Tx) (hl : t1.length ≠ t2.length) (w0) (hA : Ro w0 [] (SlA A (t1.flatMap aI))) (hB : Ro w0 [] (SlA B (t2.flatMap aI))) :
  cP 62 #[sL A t1.length c, sL B t2.length e] w0 fun v L => ∃ (O : y8) (d : Nat), v = sL O (dE t1 t2).length d ∧ L = [OwnA 115 2 O (dE t1 t2).length d ((dE t1 t2).flatMap aZ)] := by
 refine co 33 [.tmp 4] func62 ?_
 refine gw ?_
 refine m6 115 2 ?_
 refine l5 (γ := Nat × y8 × Nat) (mr 5 27 []) (fun g => [(6, iI g.1), (5, sL g.2.1 g.1 g.2.2)]) (fun g => [OwnA 115 2 g.2.1 g.1 g.2.2 (((t1.take g.1).zip (t2.take g.1)).flatMap aZ)]) (fun g => g.1 = 0) (fun g => 0) ((0, none, 0))
  rfl oa sr ?_
 rintro ⟨k, O, d⟩ u hk
 dsimp only at hk
 show TC _ _ _ (puts [(6, iI k), (5, sL O k d)] (scr _ u _)) [OwnA 115 2 O k d (((t1.take k).zip (t2.take k)).flatMap aZ)]
 refine gw ?_
 refine j0 rfl rfl (p9 rfl rfl) (fun h10 => gw ?_) (fun h10 => gw ?_)
 ·refine E8 rfl rfl rfl (Qt.dF (z6 rfl rfl) (hl)) (gw ?_)
  refine i7 (c8 (gw ?_))
  refine a9 (D7 sr ?_)
  have hE : dE t1 t2 = [] := if_neg hl
  rw [hE]
  obtain rfl : k = 0 := hk
  exact ⟨O, d, rfl, rfl⟩
 ·refine i7 (c8 (gw ?_))
  refine a9 (D7 sr ?_)
  have hE : dE t1 t2 = [] := if_neg hl
  rw [hE]
  obtain rfl : k = 0 := hk
  exact ⟨O, d, rfl, rfl⟩
theorem EH (x : i6) (i : Nat) (A) (c : Nat) (ps : List i6) (hi : i < 18446744073709551616) (w0) (hR : Ro w0 [] (SlA A (m9 ps))) (hT : Tabs 3 1 w0 []) : cP 155 #[uI i, .agg (L8 x ++ [sL A ps.length c]).toArray] w0 fun v L => X8 (S6 x i ps) v L := by
 by_cases hf : dA i ps.length
 ·rw [HB hf]; exact zcK x i A c ps hi hf w0 hR hT
 ·rw [HA hf]; exact zbt x i A c ps hi hf w0
theorem zZ (x : i6) (i : Nat) (A) (c : Nat) (ps : List i6) (hi : i < 18446744073709551616) (w0) (hR : Ro w0 [] (SlA A (m9 ps))) (hT : Tabs 2 0 w0 []) : cP 157 #[uI i, hv x, sL A ps.length c] w0 fun v L => tN (S6 x i ps) v L := by
 by_cases hf : dA i ps.length
 ·rw [HB hf]; exact zbA x i A c ps hi hf w0 hR hT
 ·rw [HA hf]; exact zaT x i A c ps hi hf w0
theorem BU (A) (c : Nat) (t1 : List Tx) (B) (e : Nat) (t2 : List Tx) (hm : t1.length ≤ 16384) (w0) (hA : Ro w0 [] (SlA A (t1.flatMap aI))) (hB : Ro w0 [] (SlA B (t2.flatMap aI))) : cP 62 #[sL A t1.length c, sL B t2.length e] w0 fun v L => ∃ (O : y8) (d : Nat), v = sL O (dE t1 t2).length d ∧ L = [OwnA 115 2 O (dE t1 t2).length d ((dE t1 t2).flatMap aZ)] := by
 by_cases hl : t1.length = t2.length
 ·exact zcH A c t1 B e t2 hl hm w0 hA hB
 ·exact zcI A c t1 B e t2 hl w0 hA hB
theorem zfK (q1 q2 q3 i : Nat) (cs ds : List Value) (hc : cs.length = 33) (hd : ds.length = 33) (hc1 : cs.all (·.oneCell') = true) (hd1 : ds.all (·.oneCell') = true) (w0) (h1 : Ro w0 [] (Blk q1 40 [uI i])) (h2 : Ro w0 [] (Blk q2 198 cs)) (h3 : Ro w0 [] (Blk q3 198 ds)) (hX : ∀ w, St w0 [] [] w → cP 155 #[uI i, .agg cs.toArray] w (X8 none)) :
  cP 154 #[.bool true, pZ q1, pZ q2, pZ q3] w0 fun v L => X8 none v L := by
 refine co 15 [.tmp 5, .tmp 6] func154 ?_
 refine gw ?_
 refine dr ([], [5]) (gw ?_)
 refine c6 2 rfl (a8 rfl (i4 (vs := cs) (c9 h2) rT (by rw [hc]; exact ce198))) (c6 3 rfl (a8 rfl (i4 (vs := ds) (c9 h3) rT (by rw [hd]; exact ce198))) (I7 4 rfl en (fun w hw => cQ (wO cs ds hc hd hc1 hd1 w)) (P5 5 rfl en (fun w hw => hX w (hw.sub sn)) ?_)))
 rintro v L' ⟨k1, rfl, rfl⟩
 refine gw ?_
 refine p7 (a9 (fR ?_))
 exact ⟨k1, rfl, rfl⟩
theorem zfL (q1 q2 q3 i : Nat) (cs ds : List Value) (hc : cs.length = 33) (hd : ds.length = 33) (hc1 : cs.all (·.oneCell') = true) (hd1 : ds.all (·.oneCell') = true) (a : List (List UInt8)) (w0) (h1 : Ro w0 [] (Blk q1 40 [uI i])) (h2 : Ro w0 [] (Blk q2 198 cs)) (h3 : Ro w0 [] (Blk q3 198 ds)) (hX : ∀ w, St w0 [] [] w → cP 155 #[uI i, .agg cs.toArray] w (X8 (some a))) :
  cP 154 #[.bool true, pZ q1, pZ q2, pZ q3] w0 fun v L => X8 (some a) v L := by
 refine co 15 [.tmp 5, .tmp 6] func154 ?_
 refine gw ?_
 refine dr ([], [5]) (gw ?_)
 refine c6 2 rfl (a8 rfl (i4 (vs := cs) (c9 h2) rT (by rw [hc]; exact ce198))) (c6 3 rfl (a8 rfl (i4 (vs := ds) (c9 h3) rT (by rw [hd]; exact ce198))) (I7 4 rfl en (fun w hw => cQ (wO cs ds hc hd hc1 hd1 w)) (P5 5 rfl en (fun w hw => hX w (hw.sub sn)) ?_)))
 rintro v L' ⟨O1, d1, t1, rfl, rfl, e1, l1⟩
 refine gw ?_
 refine p7 (a9 (finQ.ret rv sr ?_))
 exact ⟨O1, d1, t1, rfl, rfl, e1, l1⟩
theorem zfJ (q1 q2 q3 i : Nat) (cs ds : List Value) (hc : cs.length = 33) (hd : ds.length = 33) (hc1 : cs.all (·.oneCell') = true) (hd1 : ds.all (·.oneCell') = true) (X : Option (List (List UInt8))) (w0) (h1 : Ro w0 [] (Blk q1 40 [uI i])) (h2 : Ro w0 [] (Blk q2 198 cs)) (h3 : Ro w0 [] (Blk q3 198 ds)) (hX : ∀ w, St w0 [] [] w → cP 155 #[uI i, .agg cs.toArray] w (X8 X)) :
  cP 154 #[.bool true, pZ q1, pZ q2, pZ q3] w0 (X8 X) := by
 cases X with
 | none => exact zfK q1 q2 q3 i cs ds hc hd hc1 hd1 w0 h1 h2 h3 hX
 | some a => exact zfL q1 q2 q3 i cs ds hc hd hc1 hd1 a w0 h1 h2 h3 hX
theorem zcL (b3 b4 b5 : Nat) (i : Nat) (hi : i < 18446744073709551616) (x : i6) (A) (c : Nat) (ps : List i6) (y : i6) (B) (e : Nat) (qs : List i6) (w0) (hR : Ro w0 [] (SlA A (m9 ps))) (hR2 : Ro w0 [] (SlA B (m9 qs))) (hT : Tabs 3 1 w0 []) (h3 : Ro w0 [] (Blk b3 40 [uI i])) (h4 : Ro w0 [] (Blk b4 198 (L8 x ++ [sL A ps.length c]))) (h5 : Ro w0 [] (Blk b5 198 (L8 y ++ [sL B qs.length e]))) :
  ∀ w, St w0 [] [] w → cP 154 ((([.bool true] : List Value) ++ (#[pZ b3, pZ b4, pZ b5] : Array Value).toList).toArray) w (X8 (S6 x i ps)) := fun w s =>
 zfJ b3 b4 b5 i (L8 x ++ [sL A ps.length c]) (L8 y ++ [sL B qs.length e]) (U6 x _) (U6 y _) (by rw [List.all_append, Y4]; rfl) (by rw [List.all_append, Y4]; rfl) (S6 x i ps) w (h3.go s nb) (h4.go s nb) (h5.go s nb) (fun w2 s2 => EH x i A c ps hi w2 ((hR.go s nb).go s2 nb) ((hT.of_go s nb).of_go s2 nb))
theorem zd0 (q1 q2 q3 i : Nat) (cs ds : List Value) (hc : cs.length = 33) (hd : ds.length = 33) (hc1 : cs.all (·.oneCell') = true) (hd1 : ds.all (·.oneCell') = true) (w0) (h1 : Ro w0 [] (Blk q1 40 [uI i])) (h2 : Ro w0 [] (Blk q2 198 cs)) (h3 : Ro w0 [] (Blk q3 198 ds)) (hX : ∀ w, St w0 [] [] w → cP 155 #[uI i, .agg ds.toArray] w (X8 none)) :
  cP 154 #[.bool false, pZ q1, pZ q2, pZ q3] w0 fun v L => X8 none v L := by
 refine co 15 [.tmp 5, .tmp 6] func154 ?_
 refine gw ?_
 refine dr ([], [5]) (gw ?_)
 refine c6 2 rfl (a8 rfl (i4 (vs := cs) (c9 h2) rT (by rw [hc]; exact ce198))) (c6 3 rfl (a8 rfl (i4 (vs := ds) (c9 h3) rT (by rw [hd]; exact ce198))) (I7 4 rfl en (fun w hw => cQ (sP cs ds hc hd hc1 hd1 w)) (P5 5 rfl en (fun w hw => hX w (hw.sub sn)) ?_)))
 rintro v L' ⟨k1, rfl, rfl⟩
 refine gw ?_
 refine p7 (a9 (fR ?_))
 exact ⟨k1, rfl, rfl⟩
theorem zd1 (q1 q2 q3 i : Nat) (cs ds : List Value) (hc : cs.length = 33) (hd : ds.length = 33) (hc1 : cs.all (·.oneCell') = true) (hd1 : ds.all (·.oneCell') = true) (a : List (List UInt8)) (w0) (h1 : Ro w0 [] (Blk q1 40 [uI i])) (h2 : Ro w0 [] (Blk q2 198 cs)) (h3 : Ro w0 [] (Blk q3 198 ds)) (hX : ∀ w, St w0 [] [] w → cP 155 #[uI i, .agg ds.toArray] w (X8 (some a))) :
  cP 154 #[.bool false, pZ q1, pZ q2, pZ q3] w0 fun v L => X8 (some a) v L := by
 refine co 15 [.tmp 5, .tmp 6] func154 ?_
 refine gw ?_
 refine dr ([], [5]) (gw ?_)
 refine c6 2 rfl (a8 rfl (i4 (vs := cs) (c9 h2) rT (by rw [hc]; exact ce198))) (c6 3 rfl (a8 rfl (i4 (vs := ds) (c9 h3) rT (by rw [hd]; exact ce198))) (I7 4 rfl en (fun w hw => cQ (sP cs ds hc hd hc1 hd1 w)) (P5 5 rfl en (fun w hw => hX w (hw.sub sn)) ?_)))
 rintro v L' ⟨O1, d1, t1, rfl, rfl, e1, l1⟩
 refine gw ?_
 refine p7 (a9 (finQ.ret rv sr ?_))
 exact ⟨O1, d1, t1, rfl, rfl, e1, l1⟩
theorem zdZ (q1 q2 q3 i : Nat) (cs ds : List Value) (hc : cs.length = 33) (hd : ds.length = 33) (hc1 : cs.all (·.oneCell') = true) (hd1 : ds.all (·.oneCell') = true) (X : Option (List (List UInt8))) (w0) (h1 : Ro w0 [] (Blk q1 40 [uI i])) (h2 : Ro w0 [] (Blk q2 198 cs)) (h3 : Ro w0 [] (Blk q3 198 ds)) (hX : ∀ w, St w0 [] [] w → cP 155 #[uI i, .agg ds.toArray] w (X8 X)) :
  cP 154 #[.bool false, pZ q1, pZ q2, pZ q3] w0 (X8 X) := by
 cases X with
 | none => exact zd0 q1 q2 q3 i cs ds hc hd hc1 hd1 w0 h1 h2 h3 hX
 | some a => exact zd1 q1 q2 q3 i cs ds hc hd hc1 hd1 a w0 h1 h2 h3 hX
theorem zbv (b3 b4 b5 : Nat) (i : Nat) (hi : i < 18446744073709551616) (x : i6) (A) (c : Nat) (ps : List i6) (y : i6) (B) (e : Nat) (qs : List i6) (w0) (hR : Ro w0 [] (SlA A (m9 ps))) (hR2 : Ro w0 [] (SlA B (m9 qs))) (hT : Tabs 3 1 w0 []) (h3 : Ro w0 [] (Blk b3 40 [uI i])) (h4 : Ro w0 [] (Blk b4 198 (L8 x ++ [sL A ps.length c]))) (h5 : Ro w0 [] (Blk b5 198 (L8 y ++ [sL B qs.length e]))) :
  ∀ w, St w0 [] [] w → cP 154 ((([.bool false] : List Value) ++ (#[pZ b3, pZ b4, pZ b5] : Array Value).toList).toArray) w (X8 (S6 y i qs)) := fun w s =>
 zdZ b3 b4 b5 i (L8 x ++ [sL A ps.length c]) (L8 y ++ [sL B qs.length e]) (U6 x _) (U6 y _) (by rw [List.all_append, Y4]; rfl) (by rw [List.all_append, Y4]; rfl) (S6 y i qs) w (h3.go s nb) (h4.go s nb) (h5.go s nb) (fun w2 s2 => EH y i B e qs hi w2 ((hR2.go s nb).go s2 nb) ((hT.of_go s nb).of_go s2 nb))
theorem sO (i : Nat) (hi : i < 18446744073709551616) (x : i6) (A) (c : Nat) (ps : List i6) (y : i6) (B) (e : Nat) (qs : List i6) (w0) (hR : Ro w0 [] (SlA A (m9 ps))) (hR2 : Ro w0 [] (SlA B (m9 qs))) (hT : Tabs 3 1 w0 []) :
  cP 96 #[uI i, .agg (L8 x ++ [sL A ps.length c]).toArray, .agg (L8 y ++ [sL B qs.length e]).toArray] w0 fun v L => fF 114 (D4 (S6 x i ps) (S6 y i qs)) v L := by
 refine co 9 [.tmp 6] func96 ?_
 refine gw ?_
 intro b3
 refine gw ?_
 intro b4
 refine gw ?_
 intro b5
 refine gw ?_
 refine e6 (E9 (fs := []) (cs := [pZ b3, pZ b4, pZ b5]) rfl rfl) (z9 en (fun w hw => BH 154 #[pZ b3, pZ b4, pZ b5] en (S6 x i ps) (S6 y i qs) w (zcL b3 b4 b5 i hi x A c ps y B e qs w (Rd.ro hR w hw) (Rd.ro hR2 w hw) (hT.at hw) (Rd.at 2 rfl w hw) (Rd.at 1 rfl w hw) (Rd.at 0 rfl w hw)) (zbv b3 b4 b5 i hi x A c ps y B e qs w (Rd.ro hR w hw) (Rd.ro hR2 w hw) (hT.at hw) (Rd.at 2 rfl w hw) (Rd.at 1 rfl w hw) (Rd.at 0 rfl w hw))) ?_)
 rintro v L' ⟨O, d, pp, Ls, rfl, rfl, q1, q2, q3⟩
 refine gw ?_
 refine a9 (D7 (sx [0, 0]) ?_)
 exact ⟨O, d, pp, Ls, rfl, rfl, q1, q2, q3⟩
theorem zbC (i : Nat) (x : i6) (A) (c : Nat) (ps : List i6) (y : i6) (B) (e : Nat) (qs : List i6) (a : Option (List (List UInt8))) (w0) (h1 : ∀ w, St w0 [] [] w → cP 157 #[uI i, hv x, sL A ps.length c] w (tN none)) (h2 : ∀ w, St w0 [] [] w → cP 157 #[uI i, hv y, sL B qs.length e] w (tN a)) :
  cP 97 #[uI i, hv x, sL A ps.length c, hv y, sL B qs.length e] w0 fun v L => fF 115 (D4 none a) v L := by
 refine co 38 [.tmp 10] func97 ?_
 refine m6 115 2 (x3 (gw ?_))
 intro b6
 refine gw ?_
 intro b8
 refine gw ?_
 refine z9 en (fun w hw => h1 w (hw.sub sn)) ?_
 rintro v L' ⟨rfl, rfl⟩
 refine o8 ?_
 refine e6 (s8 rfl rfl) (e6 (s8 rfl rfl) (C3 (C3 (l3 (c8 (c7 (o8 ?_)))))))
 refine e6 (a8 rfl (gR (x := y) w5 rT ce49)) (o8 ?_)
 cases a
 ·refine z9 en (fun w hw => h2 w (hw.sub sn)) ?_
  rintro v L' ⟨rfl, rfl⟩
  refine gw ?_
  refine a9 (D7 (sx [3, 2]) ?_)
  exact ⟨none, 0, [], [], rfl, rfl, rfl, Nat.zero_le _, fun p hp => nomatch hp⟩
 ·refine z9 en (fun w hw => h2 w (hw.sub sn)) ?_
  rintro v L' ⟨O2, d2, t2, rfl, rfl, e2, l2⟩
  refine gw ?_
  refine a9 (D7 (sx [5, 4]) ?_)
  exact ⟨none, 0, [], [], rfl, rfl, rfl, Nat.zero_le _, fun p hp => nomatch hp⟩
theorem zaU (i : Nat) (x : i6) (A) (c : Nat) (ps : List i6) (y : i6) (B) (e : Nat) (qs : List i6) (a : List (List UInt8)) (w0) (h1 : ∀ w, St w0 [] [] w → cP 157 #[uI i, hv x, sL A ps.length c] w (tN (some a))) (h2 : ∀ w, St w0 [] [] w → cP 157 #[uI i, hv y, sL B qs.length e] w (tN none)) :
  cP 97 #[uI i, hv x, sL A ps.length c, hv y, sL B qs.length e] w0 fun v L => fF 115 (D4 (some a) none) v L := by
 refine co 38 [.tmp 10] func97 ?_
 refine m6 115 2 (x3 (gw ?_))
 intro b6
 refine gw ?_
 intro b8
 refine gw ?_
 refine z9 en (fun w hw => h1 w (hw.sub sn)) ?_
 rintro v L' ⟨O1, d1, t1, rfl, rfl, e1, l1⟩
 refine gw ?_
 refine z9 en (fun w hw => h2 w (hw.sub sn)) ?_
 rintro v L' ⟨rfl, rfl⟩
 refine gw ?_
 refine a9 (D7 (sx [5, 4]) ?_)
 exact ⟨none, 0, [], [], rfl, rfl, rfl, Nat.zero_le _, fun p hp => nomatch hp⟩
theorem zbB (i : Nat) (x : i6) (A) (c : Nat) (ps : List i6) (y : i6) (B) (e : Nat) (qs : List i6) (a b : List (List UInt8)) (w0) (h1 : ∀ w, St w0 [] [] w → cP 157 #[uI i, hv x, sL A ps.length c] w (tN (some a))) (h2 : ∀ w, St w0 [] [] w → cP 157 #[uI i, hv y, sL B qs.length e] w (tN (some b))) :
  cP 97 #[uI i, hv x, sL A ps.length c, hv y, sL B qs.length e] w0 fun v L => fF 115 (D4 (some a) (some b)) v L := by
 refine co 38 [.tmp 10] func97 ?_
 refine gw ?_
 intro b6
 refine gw ?_
 intro b8
 refine gw ?_
 refine z9 en (fun w hw => h1 w (hw.sub sn)) ?_
 rintro v L' ⟨O1, d1, t1, rfl, rfl, e1, l1⟩
 refine gw ?_
 refine z9 en (fun w hw => h2 w (hw.sub sn)) ?_
 rintro v L' ⟨O2, d2, t2, rfl, rfl, e2, l2⟩
 refine gw ?_
 refine z9 en (fun w hw => BU O1 d1 t1 O2 d2 t2 l1 w (Rd.own (Rd.at 2 rfl) w hw) (Rd.own (Rd.at 0 rfl) w hw)) ?_
 rintro v L' ⟨O, d, rfl, rfl⟩
 refine eL (pm4.trans (pc pm2)) (gw ?_)
 refine a9 (D7 (sx [1, 0]) ?_)
 have hl := xZ t1 t2
 refine ⟨O, d, dE t1 t2, t1.map u3 ++ t2.map u3, rfl, rfl, ?_, by omega, pT⟩
 rw [CK, e1, e2]; rfl
theorem zhC (i : Nat) (x : i6) (A) (c : Nat) (ps : List i6) (y : i6) (B) (e : Nat) (qs : List i6) (hi : i < 18446744073709551616) (w0) (hR : Ro w0 [] (SlA A (m9 ps))) (hR2 : Ro w0 [] (SlA B (m9 qs))) (hT : Tabs 2 0 w0 []) :
  cP 97 #[uI i, hv x, sL A ps.length c, hv y, sL B qs.length e] w0 fun v L => fF 115 (D4 (S6 x i ps) (S6 y i qs)) v L := by
 have h1 : ∀ w, St w0 [] [] w → cP 157 #[uI i, hv x, sL A ps.length c] w (tN (S6 x i ps)) := fun w s => zZ x i A c ps hi w (hR.go s nb) (hT.of_go s nb)
 have h2 : ∀ w, St w0 [] [] w → cP 157 #[uI i, hv y, sL B qs.length e] w (tN (S6 y i qs)) := fun w s => zZ y i B e qs hi w (hR2.go s nb) (hT.of_go s nb)
 cases hx : S6 x i ps with
 | none => rw [hx] at h1; exact zbC i x A c ps y B e qs _ w0 h1 h2
 | some a => rw [hx] at h1; cases hy : S6 y i qs with
  | none => rw [hy] at h2; exact zaU i x A c ps y B e qs a w0 h1 h2
  | some b => rw [hy] at h2; exact zbB i x A c ps y B e qs a b w0 h1 h2
theorem EC (z : Int) (A) (c : Nat) (xs : List Nat) (hc : xs.length ≤ c) (B) (b : Nat) (ls : List i6) (Z) (e : Nat) (bs : List i6) (hb : ls.length ≤ b) (hbs : bs.length ≤ e) (w0) (lw : lW xs) (hR : Ro w0 [] (SlA A (w6 xs))) (hB : Ro w0 [] (SlA B (m9 ls))) (hD : Ro w0 [] (SlA Z (m9 bs))) (hT : Tabs 3 1 w0 []) : cP 144 #[iI z, sL A xs.length c, sL B ls.length b, sL Z bs.length e] w0 fun v L => X8 (I3 z xs ls bs) v L := by
 have hE : ∀ (z : Int) (k : Nat), (∀ w, Ro w [] (SlA A (w6 xs)) → Ro w [] (SlA B (m9 ls)) → Ro w [] (SlA Z (m9 bs)) → cR 188 #[iI z, sL A xs.length c, sL B ls.length b, sL Z bs.length e] w (.tuple #[hv e7, sL none 0 0, .iface 73 (iI k)])) → cP 144 #[iI z, sL A xs.length c, sL B ls.length b, sL Z bs.length e] w0 (fun v L => X8 none v L) :=
  fun z k h => (zge z k A c xs B b ls Z e bs h w0 hR hB hD).mono fun q w ⟨v, L, h1, h2, h3, h4⟩ => ⟨v, L, h1, h2, (k : Int), h3, h4⟩
 by_cases hz : z < 0 ∨ 32 < z
 ·rw [fZ (by rw [sW, if_pos hz]; decide)]; exact hE z 1 (fun w r1 r2 r3 => GL z A c xs hc B b ls Z e bs ow lw w r1)
 ·obtain ⟨gh, rfl⟩ : ∃ n : Nat, z = (n : Int) := ⟨z.toNat, by omega⟩
  have hh : gh ≤ 32 := by omega
  by_cases hi : idxOk gh xs
  ·by_cases h2 : ls.length = xs.length
   ·by_cases h3 : bs.length = (l7 gh xs 0).length
    ·rw [uA hh hi h2 h3]; exact (zgd gh hh A c xs hc B b ls Z e bs hi h2 h3 hb hbs w0 lw hR hB hD hT).mono fun q w ⟨v, L, k1, k2, O, d, tt, k3, k4, k5⟩ => ⟨v, L, k1, k2, O, d, tt, k3, k4, k5, by have n1 := congrArg List.length k5; rw [List.length_map] at n1; have n2 := Y8 gh xs 0 ls bs; have n3 : xs.length * gh ≤ 256 * 32 := Nat.mul_le_mul hi.2.1 hh; omega⟩
    ·rw [fZ (by rw [cI hh, HK hi h2 h3]; show (5 : Nat) ≠ 0; decide)]; exact hE _ 5 (fun w r1 r2 r3 => cQ (zdt gh hh A c xs hc B b ls Z e bs hi h2 h3 w lw r1 r2 r3))
   ·rw [fZ (by rw [cI hh, HJ hi h2]; show (2 : Nat) ≠ 0; decide)]; exact hE _ 2 (fun w r1 r2 r3 => cQ (zds gh hh A c xs hc B b ls Z e bs hi h2 w lw r1 r2 r3))
  ·rw [fZ (by rw [cI hh, HI hi]; show (1 : Nat) ≠ 0; decide)]; exact hE _ 1 (fun w r1 r2 r3 => GL _ A c xs hc B b ls Z e bs (.inr (.inr ⟨gh, rfl, hh, hi⟩)) lw w r1)
def yA (X : Option (List (List UInt8))) (v : Value) (L : List Assn) : Prop := match X with
 | none => ∃ k : Nat, k ≠ 0 ∧ v = .tuple #[.slice none 0 0, hv e7, .int .i64 (k : Int)] ∧ L = []
 | some xs => ∃ (O : y8) (d : Nat) (tt : List Tx) (h : i6), v = .tuple #[.slice O tt.length d, hv h, .int .i64 0] ∧ L = [OwnA 112 1 O tt.length d (tt.flatMap aI), C1 (tt.map u3)] ∧ tt.map (fun t => t.2.2) = xs ∧ tt.length ≤ 16384
theorem zY (z : Int) (A) (c : Nat) (xs : List Nat) (hc : xs.length ≤ c) (B) (b : Nat) (ls : List i6) (Z) (e : Nat) (bs : List i6) (w0) (lw : lW xs) (hR : Ro w0 [] (SlA A (w6 xs))) (hB : Ro w0 [] (SlA B (m9 ls))) (hD : Ro w0 [] (SlA Z (m9 bs))) (hT : Tabs 2 0 w0 []) : cP 148 #[iI z, sL A xs.length c, sL B ls.length b, sL Z bs.length e] w0 fun v L => yA (I3 z xs ls bs) v L := by
 have hE : ∀ (z : Int) (k : Nat), k ≠ 0 → cR 148 #[iI z, sL A xs.length c, sL B ls.length b, sL Z bs.length e] w0 (.tuple #[sL none 0 0, hv e7, iI k]) → cP 148 #[iI z, sL A xs.length c, sL B ls.length b, sL Z bs.length e] w0 (fun v L => yA none v L) :=
  fun z k hk h => h.mono fun q w ⟨h1, h2⟩ => ⟨_, [], h1, h2, k, hk, rfl, rfl⟩
 by_cases hz : z < 0 ∨ 32 < z
 ·rw [fZ (by rw [sW, if_pos hz]; decide)]; exact hE z 1 dc (JK z A c xs hc B b ls Z e bs ow lw w0 hR)
 ·obtain ⟨gh, rfl⟩ : ∃ n : Nat, z = (n : Int) := ⟨z.toNat, by omega⟩
  have hh : gh ≤ 32 := by omega
  by_cases hi : idxOk gh xs
  ·by_cases h2 : ls.length = xs.length
   ·by_cases h3 : bs.length = (l7 gh xs 0).length
    ·rw [uA hh hi h2 h3]; exact (zfW gh hh A c xs hc B b ls Z e bs hi h2 h3 w0 lw hR hB hD hT).mono fun q w ⟨v, L, k1, k2, O, d, tt, k3, k4, k5⟩ => ⟨v, L, k1, k2, O, d, tt, _, k3, k4, k5, by have n1 := congrArg List.length k5; rw [List.length_map] at n1; have n2 := Y8 gh xs 0 ls bs; have n3 : xs.length * gh ≤ 256 * 32 := Nat.mul_le_mul hi.2.1 hh; omega⟩
    ·rw [fZ (by rw [cI hh, HK hi h2 h3]; show (5 : Nat) ≠ 0; decide)]; exact hE _ 5 dc (cQ (zfZ gh hh A c xs hc B b ls Z e bs hi h2 h3 w0 lw hR hB hD))
   ·rw [fZ (by rw [cI hh, HJ hi h2]; show (2 : Nat) ≠ 0; decide)]; exact hE _ 2 dc (cQ (zfY gh hh A c xs hc B b ls Z e bs hi h2 w0 lw hR hB hD))
  ·rw [fZ (by rw [cI hh, HI hi]; show (1 : Nat) ≠ 0; decide)]; exact hE _ 1 dc (JK _ A c xs hc B b ls Z e bs (.inr (.inr ⟨gh, rfl, hh, hi⟩)) lw w0 hR)
theorem zft (q1 q2 q3 q4 : Nat) (z : Int) (A) (n c : Nat) (B1) (n1 a1 : Nat) (Z1) (m1 e1 : Nat) (B2) (n2 a2 : Nat) (Z2) (m2 e2 : Nat) (w0) (h1 : Ro w0 [] (Blk q1 182 (vl (.agg #[sL B1 n1 a1, sL Z1 m1 e1])))) (h2 : Ro w0 [] (Blk q2 182 (vl (.agg #[sL B2 n2 a2, sL Z2 m2 e2])))) (h3 : Ro w0 [] (Blk q3 3 [iI z])) (h4 : Ro w0 [] (Blk q4 22 [sL A n c])) (hX : ∀ w, St w0 [] [] w → cP 144 #[iI z, sL A n c, sL B1 n1 a1, sL Z1 m1 e1] w (X8 none)) :
  cP 142 #[.bool true, pZ q1, pZ q2, pZ q3, pZ q4] w0 fun v L => X8 none v L := by
 refine co 22 [.tmp 6, .tmp 7] func142 ?_
 refine gw ?_
 refine e6 (a8 rfl (i4 (vs := vl (.agg #[sL B1 n1 a1, sL Z1 m1 e1])) (c9 h1) rT ce182)) (e6 (a8 rfl (i4 (vs := vl (.agg #[sL B2 n2 a2, sL Z2 m2 e2])) (c9 h2) rT ce182)) (u7 en (fun w hw => cQ (wQ B1 n1 a1 Z1 m1 e1 B2 n2 a2 Z2 m2 e2 w)) (gw ?_)))
 intro b8
 refine j9 rfl (j5 (v := .agg #[sL B1 n1 a1, sL Z1 m1 e1]) rfl rfl (by exact ce182) (by rfl) (by rfl) (gw ?_))
 refine z9 en (fun w hw => hX w (hw.sub sn)) ?_
 rintro v L' ⟨k1, rfl, rfl⟩
 refine gw ?_
 refine a9 (fR ?_)
 exact ⟨k1, rfl, rfl⟩
theorem zfu (q1 q2 q3 q4 : Nat) (z : Int) (A) (n c : Nat) (B1) (n1 a1 : Nat) (Z1) (m1 e1 : Nat) (B2) (n2 a2 : Nat) (Z2) (m2 e2 : Nat) (a : List (List UInt8)) (w0) (h1 : Ro w0 [] (Blk q1 182 (vl (.agg #[sL B1 n1 a1, sL Z1 m1 e1])))) (h2 : Ro w0 [] (Blk q2 182 (vl (.agg #[sL B2 n2 a2, sL Z2 m2 e2])))) (h3 : Ro w0 [] (Blk q3 3 [iI z])) (h4 : Ro w0 [] (Blk q4 22 [sL A n c])) (hX : ∀ w, St w0 [] [] w → cP 144 #[iI z, sL A n c, sL B1 n1 a1, sL Z1 m1 e1] w (X8 (some a))) :
  cP 142 #[.bool true, pZ q1, pZ q2, pZ q3, pZ q4] w0 fun v L => X8 (some a) v L := by
 refine co 22 [.tmp 6, .tmp 7] func142 ?_
 refine gw ?_
 refine e6 (a8 rfl (i4 (vs := vl (.agg #[sL B1 n1 a1, sL Z1 m1 e1])) (c9 h1) rT ce182)) (e6 (a8 rfl (i4 (vs := vl (.agg #[sL B2 n2 a2, sL Z2 m2 e2])) (c9 h2) rT ce182)) (u7 en (fun w hw => cQ (wQ B1 n1 a1 Z1 m1 e1 B2 n2 a2 Z2 m2 e2 w)) (gw ?_)))
 intro b8
 refine j9 rfl (j5 (v := .agg #[sL B1 n1 a1, sL Z1 m1 e1]) rfl rfl (by exact ce182) (by rfl) (by rfl) (gw ?_))
 refine z9 en (fun w hw => hX w (hw.sub sn)) ?_
 rintro v L' ⟨O1, d1, t1, rfl, rfl, e1, l1⟩
 refine gw ?_
 refine a9 (finQ.ret rv (sx [0, 0]) ?_)
 exact ⟨O1, d1, t1, rfl, rfl, e1, l1⟩
theorem zfs (q1 q2 q3 q4 : Nat) (z : Int) (A) (n c : Nat) (B1) (n1 a1 : Nat) (Z1) (m1 e1 : Nat) (B2) (n2 a2 : Nat) (Z2) (m2 e2 : Nat) (X : Option (List (List UInt8))) (w0) (h1 : Ro w0 [] (Blk q1 182 (vl (.agg #[sL B1 n1 a1, sL Z1 m1 e1])))) (h2 : Ro w0 [] (Blk q2 182 (vl (.agg #[sL B2 n2 a2, sL Z2 m2 e2])))) (h3 : Ro w0 [] (Blk q3 3 [iI z])) (h4 : Ro w0 [] (Blk q4 22 [sL A n c])) (hX : ∀ w, St w0 [] [] w → cP 144 #[iI z, sL A n c, sL B1 n1 a1, sL Z1 m1 e1] w (X8 X)) :
  cP 142 #[.bool true, pZ q1, pZ q2, pZ q3, pZ q4] w0 (X8 X) := by
 cases X with
 | none => exact zft q1 q2 q3 q4 z A n c B1 n1 a1 Z1 m1 e1 B2 n2 a2 Z2 m2 e2 w0 h1 h2 h3 h4 hX
 | some a => exact zfu q1 q2 q3 q4 z A n c B1 n1 a1 Z1 m1 e1 B2 n2 a2 Z2 m2 e2 a w0 h1 h2 h3 h4 hX
theorem zcG (b4 b5 b6 b7 : Nat) (z : Int) (A) (c : Nat) (xs : List Nat) (hc : xs.length ≤ c) (B1) (a1 : Nat) (ls1 : List i6) (Z1) (e1 : Nat) (bs1 : List i6) (B2) (a2 : Nat) (ls2 : List i6) (Z2) (e2 : Nat) (bs2 : List i6) (hb1 : ls1.length ≤ a1) (he1 : bs1.length ≤ e1) (hb2 : ls2.length ≤ a2) (he2 : bs2.length ≤ e2) (w0) (lw : lW xs) (hR : Ro w0 [] (SlA A (w6 xs))) (hB1 : Ro w0 [] (SlA B1 (m9 ls1))) (hD1 : Ro w0 [] (SlA Z1 (m9 bs1))) (hB2 : Ro w0 [] (SlA B2 (m9 ls2))) (hD2 : Ro w0 [] (SlA Z2 (m9 bs2))) (hT : Tabs 3 1 w0 []) (h6 : Ro w0 [] (Blk b6 182 (vl (.agg #[sL B1 ls1.length a1, sL Z1 bs1.length e1])))) (h7 : Ro w0 [] (Blk b7 182 (vl (.agg #[sL B2 ls2.length a2, sL Z2 bs2.length e2])))) (h4 : Ro w0 [] (Blk b4 3 [iI z])) (h5 : Ro w0 [] (Blk b5 22 [sL A xs.length c])) :
  ∀ w, St w0 [] [] w → cP 142 ((([.bool true] : List Value) ++ (#[pZ b6, pZ b7, pZ b4, pZ b5] : Array Value).toList).toArray) w (X8 (I3 z xs ls1 bs1)) := fun w s =>
 zfs b6 b7 b4 b5 z A xs.length c B1 ls1.length a1 Z1 bs1.length e1 B2 ls2.length a2 Z2 bs2.length e2 (I3 z xs ls1 bs1) w (h6.go s nb) (h7.go s nb) (h4.go s nb) (h5.go s nb) (fun w2 s2 => EC z A c xs hc B1 a1 ls1 Z1 e1 bs1 hb1 he1 w2 lw ((hR.go s nb).go s2 nb) ((hB1.go s nb).go s2 nb) ((hD1.go s nb).go s2 nb) ((hT.of_go s nb).of_go s2 nb))
theorem zdU (q1 q2 q3 q4 : Nat) (z : Int) (A) (n c : Nat) (B1) (n1 a1 : Nat) (Z1) (m1 e1 : Nat) (B2) (n2 a2 : Nat) (Z2) (m2 e2 : Nat) (w0) (h1 : Ro w0 [] (Blk q1 182 (vl (.agg #[sL B1 n1 a1, sL Z1 m1 e1])))) (h2 : Ro w0 [] (Blk q2 182 (vl (.agg #[sL B2 n2 a2, sL Z2 m2 e2])))) (h3 : Ro w0 [] (Blk q3 3 [iI z])) (h4 : Ro w0 [] (Blk q4 22 [sL A n c])) (hX : ∀ w, St w0 [] [] w → cP 144 #[iI z, sL A n c, sL B2 n2 a2, sL Z2 m2 e2] w (X8 none)) :
  cP 142 #[.bool false, pZ q1, pZ q2, pZ q3, pZ q4] w0 fun v L => X8 none v L := by
 refine co 22 [.tmp 6, .tmp 7] func142 ?_
 refine gw ?_
 refine e6 (a8 rfl (i4 (vs := vl (.agg #[sL B1 n1 a1, sL Z1 m1 e1])) (c9 h1) rT ce182)) (e6 (a8 rfl (i4 (vs := vl (.agg #[sL B2 n2 a2, sL Z2 m2 e2])) (c9 h2) rT ce182)) (u7 en (fun w hw => cQ (sR B1 n1 a1 Z1 m1 e1 B2 n2 a2 Z2 m2 e2 w)) (gw ?_)))
 intro b8
 refine j9 rfl (j5 (v := .agg #[sL B2 n2 a2, sL Z2 m2 e2]) rfl rfl (by exact ce182) (by rfl) (by rfl) (gw ?_))
 refine z9 en (fun w hw => hX w (hw.sub sn)) ?_
 rintro v L' ⟨k1, rfl, rfl⟩
 refine gw ?_
 refine a9 (fR ?_)
 exact ⟨k1, rfl, rfl⟩
theorem zdV (q1 q2 q3 q4 : Nat) (z : Int) (A) (n c : Nat) (B1) (n1 a1 : Nat) (Z1) (m1 e1 : Nat) (B2) (n2 a2 : Nat) (Z2) (m2 e2 : Nat) (a : List (List UInt8)) (w0) (h1 : Ro w0 [] (Blk q1 182 (vl (.agg #[sL B1 n1 a1, sL Z1 m1 e1])))) (h2 : Ro w0 [] (Blk q2 182 (vl (.agg #[sL B2 n2 a2, sL Z2 m2 e2])))) (h3 : Ro w0 [] (Blk q3 3 [iI z])) (h4 : Ro w0 [] (Blk q4 22 [sL A n c])) (hX : ∀ w, St w0 [] [] w → cP 144 #[iI z, sL A n c, sL B2 n2 a2, sL Z2 m2 e2] w (X8 (some a))) :
  cP 142 #[.bool false, pZ q1, pZ q2, pZ q3, pZ q4] w0 fun v L => X8 (some a) v L := by
 refine co 22 [.tmp 6, .tmp 7] func142 ?_
 refine gw ?_
 refine e6 (a8 rfl (i4 (vs := vl (.agg #[sL B1 n1 a1, sL Z1 m1 e1])) (c9 h1) rT ce182)) (e6 (a8 rfl (i4 (vs := vl (.agg #[sL B2 n2 a2, sL Z2 m2 e2])) (c9 h2) rT ce182)) (u7 en (fun w hw => cQ (sR B1 n1 a1 Z1 m1 e1 B2 n2 a2 Z2 m2 e2 w)) (gw ?_)))
 intro b8
 refine j9 rfl (j5 (v := .agg #[sL B2 n2 a2, sL Z2 m2 e2]) rfl rfl (by exact ce182) (by rfl) (by rfl) (gw ?_))
 refine z9 en (fun w hw => hX w (hw.sub sn)) ?_
 rintro v L' ⟨O1, d1, t1, rfl, rfl, e1, l1⟩
 refine gw ?_
 refine a9 (finQ.ret rv (sx [0, 0]) ?_)
 exact ⟨O1, d1, t1, rfl, rfl, e1, l1⟩
theorem zdT (q1 q2 q3 q4 : Nat) (z : Int) (A) (n c : Nat) (B1) (n1 a1 : Nat) (Z1) (m1 e1 : Nat) (B2) (n2 a2 : Nat) (Z2) (m2 e2 : Nat) (X : Option (List (List UInt8))) (w0) (h1 : Ro w0 [] (Blk q1 182 (vl (.agg #[sL B1 n1 a1, sL Z1 m1 e1])))) (h2 : Ro w0 [] (Blk q2 182 (vl (.agg #[sL B2 n2 a2, sL Z2 m2 e2])))) (h3 : Ro w0 [] (Blk q3 3 [iI z])) (h4 : Ro w0 [] (Blk q4 22 [sL A n c])) (hX : ∀ w, St w0 [] [] w → cP 144 #[iI z, sL A n c, sL B2 n2 a2, sL Z2 m2 e2] w (X8 X)) :
  cP 142 #[.bool false, pZ q1, pZ q2, pZ q3, pZ q4] w0 (X8 X) := by
 cases X with
 | none => exact zdU q1 q2 q3 q4 z A n c B1 n1 a1 Z1 m1 e1 B2 n2 a2 Z2 m2 e2 w0 h1 h2 h3 h4 hX
 | some a => exact zdV q1 q2 q3 q4 z A n c B1 n1 a1 Z1 m1 e1 B2 n2 a2 Z2 m2 e2 a w0 h1 h2 h3 h4 hX
theorem zbr (b4 b5 b6 b7 : Nat) (z : Int) (A) (c : Nat) (xs : List Nat) (hc : xs.length ≤ c) (B1) (a1 : Nat) (ls1 : List i6) (Z1) (e1 : Nat) (bs1 : List i6) (B2) (a2 : Nat) (ls2 : List i6) (Z2) (e2 : Nat) (bs2 : List i6) (hb1 : ls1.length ≤ a1) (he1 : bs1.length ≤ e1) (hb2 : ls2.length ≤ a2) (he2 : bs2.length ≤ e2) (w0) (lw : lW xs) (hR : Ro w0 [] (SlA A (w6 xs))) (hB1 : Ro w0 [] (SlA B1 (m9 ls1))) (hD1 : Ro w0 [] (SlA Z1 (m9 bs1))) (hB2 : Ro w0 [] (SlA B2 (m9 ls2))) (hD2 : Ro w0 [] (SlA Z2 (m9 bs2))) (hT : Tabs 3 1 w0 []) (h6 : Ro w0 [] (Blk b6 182 (vl (.agg #[sL B1 ls1.length a1, sL Z1 bs1.length e1])))) (h7 : Ro w0 [] (Blk b7 182 (vl (.agg #[sL B2 ls2.length a2, sL Z2 bs2.length e2])))) (h4 : Ro w0 [] (Blk b4 3 [iI z])) (h5 : Ro w0 [] (Blk b5 22 [sL A xs.length c])) :
  ∀ w, St w0 [] [] w → cP 142 ((([.bool false] : List Value) ++ (#[pZ b6, pZ b7, pZ b4, pZ b5] : Array Value).toList).toArray) w (X8 (I3 z xs ls2 bs2)) := fun w s =>
 zdT b6 b7 b4 b5 z A xs.length c B1 ls1.length a1 Z1 bs1.length e1 B2 ls2.length a2 Z2 bs2.length e2 (I3 z xs ls2 bs2) w (h6.go s nb) (h7.go s nb) (h4.go s nb) (h5.go s nb) (fun w2 s2 => EC z A c xs hc B2 a2 ls2 Z2 e2 bs2 hb2 he2 w2 lw ((hR.go s nb).go s2 nb) ((hB2.go s nb).go s2 nb) ((hD2.go s nb).go s2 nb) ((hT.of_go s nb).of_go s2 nb))
theorem jF (z : Int) (A) (c : Nat) (xs : List Nat) (hc : xs.length ≤ c) (B1) (a1 : Nat) (ls1 : List i6) (Z1) (e1 : Nat) (bs1 : List i6) (B2) (a2 : Nat) (ls2 : List i6) (Z2) (e2 : Nat) (bs2 : List i6) (hb1 : ls1.length ≤ a1) (he1 : bs1.length ≤ e1) (hb2 : ls2.length ≤ a2) (he2 : bs2.length ≤ e2) (w0) (lw : lW xs) (hR : Ro w0 [] (SlA A (w6 xs))) (hB1 : Ro w0 [] (SlA B1 (m9 ls1))) (hD1 : Ro w0 [] (SlA Z1 (m9 bs1))) (hB2 : Ro w0 [] (SlA B2 (m9 ls2))) (hD2 : Ro w0 [] (SlA Z2 (m9 bs2))) (hT : Tabs 3 1 w0 []) :
  cP 84 #[iI z, sL A xs.length c, .agg #[sL B1 ls1.length a1, sL Z1 bs1.length e1], .agg #[sL B2 ls2.length a2, sL Z2 bs2.length e2]] w0 fun v L => fF 114 (D4 (I3 z xs ls1 bs1) (I3 z xs ls2 bs2)) v L := by
 refine co 11 [.tmp 8] func84 ?_
 refine gw ?_
 intro b4
 refine gw ?_
 intro b5
 refine gw ?_
 intro b6
 refine gw ?_
 intro b7
 refine gw ?_
 refine e6 (E9 (fs := []) (cs := [pZ b6, pZ b7, pZ b4, pZ b5]) rfl rfl) (z9 en (fun w hw => BH 142 #[pZ b6, pZ b7, pZ b4, pZ b5] en (I3 z xs ls1 bs1) (I3 z xs ls2 bs2) w (zcG b4 b5 b6 b7 z A c xs hc B1 a1 ls1 Z1 e1 bs1 B2 a2 ls2 Z2 e2 bs2 hb1 he1 hb2 he2 w lw (Rd.ro hR w hw) (Rd.ro hB1 w hw) (Rd.ro hD1 w hw) (Rd.ro hB2 w hw) (Rd.ro hD2 w hw) (hT.at hw) (Rd.at 1 rfl w hw) (Rd.at 0 rfl w hw) (Rd.at 3 rfl w hw) (Rd.at 2 rfl w hw)) (zbr b4 b5 b6 b7 z A c xs hc B1 a1 ls1 Z1 e1 bs1 B2 a2 ls2 Z2 e2 bs2 hb1 he1 hb2 he2 w lw (Rd.ro hR w hw) (Rd.ro hB1 w hw) (Rd.ro hD1 w hw) (Rd.ro hB2 w hw) (Rd.ro hD2 w hw) (hT.at hw) (Rd.at 1 rfl w hw) (Rd.at 0 rfl w hw) (Rd.at 3 rfl w hw) (Rd.at 2 rfl w hw))) ?_)
 rintro v L' ⟨O, d, pp, Ls, rfl, rfl, q1, q2, q3⟩
 refine gw ?_
 refine a9 (D7 (sx [0, 0]) ?_)
 exact ⟨O, d, pp, Ls, rfl, rfl, q1, q2, q3⟩
theorem zbz (z : Int) (A) (m c : Nat) (B1) (n1 a1 : Nat) (Z1) (m1 e1 : Nat) (B2) (n2 a2 : Nat) (Z2) (m2 e2 : Nat) (a : Option (List (List UInt8))) (w0) (h1 : ∀ w, St w0 [] [] w → cP 148 #[iI z, sL A m c, sL B1 n1 a1, sL Z1 m1 e1] w (yA none)) (h2 : ∀ w, St w0 [] [] w → cP 148 #[iI z, sL A m c, sL B2 n2 a2, sL Z2 m2 e2] w (yA a)) :
  cP 89 #[iI z, sL A m c, sL B1 n1 a1, sL Z1 m1 e1, sL B2 n2 a2, sL Z2 m2 e2] w0 fun v L => fF 115 (D4 none a) v L := by
 refine co 46 [.tmp 12] func89 ?_
 refine m6 115 2 (x3 (gw ?_))
 refine z9 en (fun w hw => h1 w (hw.sub sn)) ?_
 rintro v L' ⟨k1, hk1, rfl, rfl⟩
 refine gw ?_
 intro b14
 refine gw ?_
 refine j9 rfl (W9 _ rfl (C3 (l3 (c8 (c7 (o8 (o8 (o8 (o8 ?_)))))))))
 cases a
 ·refine z9 en (fun w hw => h2 w (hw.sub sn)) ?_
  rintro v L' ⟨k2, hk2, rfl, rfl⟩
  refine gw ?_
  intro b17
  refine gw ?_
  refine j9 rfl (W9 _ rfl (gw ?_))
  refine e6 (Qt.dT (C7 (b := 0) rfl rfl) ow) (gw ?_)
  refine a9 (D7 (sx [3, 2]) ?_)
  exact ⟨none, 0, [], [], rfl, rfl, rfl, Nat.zero_le _, fun p hp => nomatch hp⟩
 ·refine z9 en (fun w hw => h2 w (hw.sub sn)) ?_
  rintro v L' ⟨O2, d2, t2, g2, rfl, rfl, e2x, l2⟩
  refine gw ?_
  intro b17
  refine gw ?_
  refine j9 rfl (W9 _ rfl (gw ?_))
  refine e6 (Qt.dT (C7 (b := 0) rfl rfl) ow) (gw ?_)
  refine a9 (D7 (sx [5, 4]) ?_)
  exact ⟨none, 0, [], [], rfl, rfl, rfl, Nat.zero_le _, fun p hp => nomatch hp⟩
theorem zaS (z : Int) (A) (m c : Nat) (B1) (n1 a1 : Nat) (Z1) (m1 e1 : Nat) (B2) (n2 a2 : Nat) (Z2) (m2 e2 : Nat) (a : List (List UInt8)) (w0) (h1 : ∀ w, St w0 [] [] w → cP 148 #[iI z, sL A m c, sL B1 n1 a1, sL Z1 m1 e1] w (yA (some a))) (h2 : ∀ w, St w0 [] [] w → cP 148 #[iI z, sL A m c, sL B2 n2 a2, sL Z2 m2 e2] w (yA none)) :
  cP 89 #[iI z, sL A m c, sL B1 n1 a1, sL Z1 m1 e1, sL B2 n2 a2, sL Z2 m2 e2] w0 fun v L => fF 115 (D4 (some a) none) v L := by
 refine co 46 [.tmp 12] func89 ?_
 refine m6 115 2 (x3 (gw ?_))
 refine z9 en (fun w hw => h1 w (hw.sub sn)) ?_
 rintro v L' ⟨O1, d1, t1, g1, rfl, rfl, e1x, l1⟩
 refine gw ?_
 intro b14
 refine gw ?_
 refine j9 rfl (W9 _ rfl (gw ?_))
 refine z9 en (fun w hw => h2 w (hw.sub sn)) ?_
 rintro v L' ⟨k2, hk2, rfl, rfl⟩
 refine gw ?_
 intro b17
 refine gw ?_
 refine j9 rfl (W9 _ rfl (gw ?_))
 refine e6 (Qt.dF (C7 (b := 0) rfl rfl) (fun h => h rfl)) (gw ?_)
 refine E8 rfl rfl rfl (Qt.dT (C7 (b := 0) rfl rfl) ow) (gw ?_)
 refine a9 (D7 (sx [5, 4]) ?_)
 exact ⟨none, 0, [], [], rfl, rfl, rfl, Nat.zero_le _, fun p hp => nomatch hp⟩
theorem zby (z : Int) (A) (m c : Nat) (B1) (n1 a1 : Nat) (Z1) (m1 e1 : Nat) (B2) (n2 a2 : Nat) (Z2) (m2 e2 : Nat) (a b : List (List UInt8)) (w0) (h1 : ∀ w, St w0 [] [] w → cP 148 #[iI z, sL A m c, sL B1 n1 a1, sL Z1 m1 e1] w (yA (some a))) (h2 : ∀ w, St w0 [] [] w → cP 148 #[iI z, sL A m c, sL B2 n2 a2, sL Z2 m2 e2] w (yA (some b))) :
  cP 89 #[iI z, sL A m c, sL B1 n1 a1, sL Z1 m1 e1, sL B2 n2 a2, sL Z2 m2 e2] w0 fun v L => fF 115 (D4 (some a) (some b)) v L := by
 refine co 46 [.tmp 12] func89 ?_
 refine gw ?_
 refine z9 en (fun w hw => h1 w (hw.sub sn)) ?_
 rintro v L' ⟨O1, d1, t1, g1, rfl, rfl, e1x, l1⟩
 refine gw ?_
 intro b14
 refine gw ?_
 refine j9 rfl (W9 _ rfl (gw ?_))
 refine z9 en (fun w hw => h2 w (hw.sub sn)) ?_
 rintro v L' ⟨O2, d2, t2, g2, rfl, rfl, e2x, l2⟩
 refine gw ?_
 intro b17
 refine gw ?_
 refine j9 rfl (W9 _ rfl (gw ?_))
 refine e6 (Qt.dF (C7 (b := 0) rfl rfl) (fun h => h rfl)) (gw ?_)
 refine E8 rfl rfl rfl (Qt.dF (C7 (b := 0) rfl rfl) (fun h => h rfl)) (gw ?_)
 refine z9 en (fun w hw => BU O1 d1 t1 O2 d2 t2 l1 w (Rd.own (Rd.at 4 rfl) w hw) (Rd.own (Rd.at 1 rfl) w hw)) ?_
 rintro v L' ⟨O, d, rfl, rfl⟩
 refine eL (pm6.trans (pc pm3)) (gw ?_)
 refine a9 (D7 (sx [1, 0]) ?_)
 have hl := xZ t1 t2
 refine ⟨O, d, dE t1 t2, t1.map u3 ++ t2.map u3, rfl, rfl, ?_, by omega, pT⟩
 rw [CK, e1x, e2x]; rfl
theorem ER (z : Int) (A) (c : Nat) (xs : List Nat) (hc : xs.length ≤ c) (B1) (a1 : Nat) (ls1 : List i6) (Z1) (e1 : Nat) (bs1 : List i6) (B2) (a2 : Nat) (ls2 : List i6) (Z2) (e2 : Nat) (bs2 : List i6) (w0) (lw : lW xs) (hR : Ro w0 [] (SlA A (w6 xs))) (hB1 : Ro w0 [] (SlA B1 (m9 ls1))) (hD1 : Ro w0 [] (SlA Z1 (m9 bs1))) (hB2 : Ro w0 [] (SlA B2 (m9 ls2))) (hD2 : Ro w0 [] (SlA Z2 (m9 bs2))) (hT : Tabs 2 0 w0 []) :
  cP 89 #[iI z, sL A xs.length c, sL B1 ls1.length a1, sL Z1 bs1.length e1, sL B2 ls2.length a2, sL Z2 bs2.length e2] w0 fun v L => fF 115 (D4 (I3 z xs ls1 bs1) (I3 z xs ls2 bs2)) v L := by
 have h1 : ∀ w, St w0 [] [] w → cP 148 #[iI z, sL A xs.length c, sL B1 ls1.length a1, sL Z1 bs1.length e1] w (yA (I3 z xs ls1 bs1)) := fun w s => zY z A c xs hc B1 a1 ls1 Z1 e1 bs1 w lw (hR.go s nb) (hB1.go s nb) (hD1.go s nb) (hT.of_go s nb)
 have h2 : ∀ w, St w0 [] [] w → cP 148 #[iI z, sL A xs.length c, sL B2 ls2.length a2, sL Z2 bs2.length e2] w (yA (I3 z xs ls2 bs2)) := fun w s => zY z A c xs hc B2 a2 ls2 Z2 e2 bs2 w lw (hR.go s nb) (hB2.go s nb) (hD2.go s nb) (hT.of_go s nb)
 cases hx : I3 z xs ls1 bs1 with
 | none => rw [hx] at h1; exact zbz z A xs.length c B1 _ a1 Z1 _ e1 B2 _ a2 Z2 _ e2 _ w0 h1 h2
 | some a => rw [hx] at h1; cases hy : I3 z xs ls2 bs2 with
  | none => rw [hy] at h2; exact zaS z A xs.length c B1 _ a1 Z1 _ e1 B2 _ a2 Z2 _ e2 a w0 h1 h2
  | some b => rw [hy] at h2; exact zby z A xs.length c B1 _ a1 Z1 _ e1 B2 _ a2 Z2 _ e2 a b w0 h1 h2
end Go.Proofs.YtgdjcmehlhebdaaGreatDoor
