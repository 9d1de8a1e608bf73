/-
  Walks: an act on both volumes; the law that they agree. Printed by a program of ours.
-/
import Derived.Test.YtaoicbjgkghnnaaNF
import Derived.Test.YtaoicbjgkghnnaaN4
import Derived.Test.YtaoicbjgkghnnaaQ1
namespace Go.Proofs.Ytaoicbjgkghnnaa
open Go.E
set_option linter.unusedVariables false
set_option maxRecDepth 4000
theorem Try.ent7 : Enters Try.prog 7 := ⟨_, Try.func7, by kernel_rfl, rfl⟩
theorem Try.ent13 : Enters Try.prog 13 := ⟨_, Try.func13, by kernel_rfl, rfl⟩
theorem Try.ent15 : Enters Try.prog 15 := ⟨_, Try.func15, by kernel_rfl, rfl⟩
theorem Try.ent16 : Enters Try.prog 16 := ⟨_, Try.func16, by kernel_rfl, rfl⟩
theorem Try.ent17 : Enters Try.prog 17 := ⟨_, Try.func17, by kernel_rfl, rfl⟩
theorem Try.ent18 : Enters Try.prog 18 := ⟨_, Try.func18, by kernel_rfl, rfl⟩
theorem Try.ent19 : Enters Try.prog 19 := ⟨_, Try.func19, by kernel_rfl, rfl⟩
theorem Try.ent20 : Enters Try.prog 20 := ⟨_, Try.func20, by kernel_rfl, rfl⟩
theorem Try.ent21 : Enters Try.prog 21 := ⟨_, Try.func21, by kernel_rfl, rfl⟩
theorem do_D (b bm n : Nat) (ms : Ms) (ls : Ls) (h : RelM ms ls) (a : ActL) (q : Int) {r1 : Nat} {r2 : List H32} {r3 : Nat} {r4 : Ls} (hD : doD n ls (uw a.k % 5) a.xs a.bs a.f q = (r1, r2, r3, r4)) (w0 : World) (hL : Sat w0 [MapA bm encU hv ms, Blk b 73 [.int .u64 (n : Int), .map (some bm)]]) (hR : Ro w0 [bm, b] (SlA a.A (u64s a.xs))) (hB : Ro w0 [bm, b] (SlA a.B (hcs a.bs))) (hc : a.xs.length ≤ a.c) (hm : a.c ≤ 9223372036854775807) (hl : ms.length ≤ 9223372036854775806) (hn : n ≤ 18446744073709551615) (hq : q ≤ 9223372036854775807) :
    Calls Try.prog 16 #[.pointer (some ⟨b, 0, none⟩), .agg #[.int .i64 a.k, .slice a.A a.xs.length a.c, .slice a.B a.bs.length a.d, .int .u64 (a.f : Int), .int .i64 q]] w0 (Post w0 [bm, b] fun v L => ∃ ms2 O e, v = .tuple #[.slice O r2.length e, errv 42 r1] ∧ (doM n ms (uw a.k % 5) a.xs a.bs a.f q).2.2.2 = ms2 ∧ RelM ms2 r4 ∧ L = [OwnA 58 32 O r2.length e (hcs r2), MapA bm encU hv ms2, Blk b 73 [.int .u64 (r3 : Int), .map (some bm)]]) := by
  have hw := do_walk b bm n ms a.k a.A a.B a.c a.d a.xs a.bs a.f q w0 hL hR hB hc hm hl hn hq
  have e := h.do (n := n) (uw a.k % 5) a.xs a.bs a.f q
  rw [hD] at e
  obtain ⟨e1, e2, e3, e4⟩ := e
  rw [e1, e2, e3] at hw
  refine hw.mono fun o w ⟨v, L, ho, hs, hv⟩ => ⟨v, L, ho, hs, ?_⟩
  obtain ⟨O, e, hv1, hv2⟩ := hv
  exact ⟨_, O, e, hv1, rfl, e4, hv2⟩
theorem rdo_D (n : Nat) (ls : Ls) (Al : Option Addr) (cl : Nat) (a : ActL) (q : Int) {r1 : Nat} {r2 : List H32} {r3 : Nat} {r4 : Ls} (hD : doD n ls (uw a.k % 5) a.xs a.bs a.f q = (r1, r2, r3, r4)) (hc : a.xs.length ≤ a.c) (hm : a.c ≤ 9223372036854775807) (hn : n ≤ 4294967296) (hq : q ≤ 9223372036854775807) (hr : ls.Pairwise (fun a b => a.1 < b.1)) (w0 : World) (hlen : ls.length ≤ 100000) (hL : Ro w0 [] (SlA Al (ls.flatMap leafL))) (hR : Ro w0 [] (SlA a.A (u64s a.xs))) (hB : Ro w0 [] (SlA a.B (hcs a.bs))) :
    Calls Try.prog 17 #[.agg #[.int .u64 (n : Int), .slice Al ls.length cl], .agg #[.int .i64 a.k, .slice a.A a.xs.length a.c, .slice a.B a.bs.length a.d, .int .u64 (a.f : Int), .int .i64 q]] w0 (Post w0 [] fun v L => ∃ A2 c2 O e, v = .tuple #[.agg #[.int .u64 (r3 : Int), .slice A2 r4.length c2], .slice O r2.length e, .int .i64 (r1 : Int)] ∧ ((r4 = ls ∧ A2 = Al ∧ c2 = cl ∧ L = [OwnA 58 32 O r2.length e (hcs r2)]) ∨ L = [OwnA 58 32 O r2.length e (hcs r2), OwnA 84 33 A2 r4.length c2 (r4.flatMap leafL)])) := by
  have hw := rdo_walk n ls Al cl a.k a.A a.c a.xs hc hm a.B a.d a.bs a.f q hn hq hr w0 hlen hL hR hB
  rw [hD] at hw
  refine hw.mono fun o w ⟨v, L, ho, hs, hv⟩ => ⟨v, L, ho, hs, ?_⟩
  obtain ⟨A2, c2, O, e, L1, hv1, hH, rfl⟩ := hv
  refine ⟨A2, c2, O, e, hv1, ?_⟩
  rcases hH with ⟨rfl, e1, e2, e3⟩ | rfl
  · exact .inl ⟨e1, e2, e3, rfl⟩
  · exact .inr rfl
theorem eqBlocks_T (A B : Option Addr) (c d : Nat) (us : List H32) (w0 : World) (hA : Ro w0 [] (SlA A (hcs us))) (hB : Ro w0 [] (SlA B (hcs us))) (h1 : us.length ≤ 9223372036854775807) : Calls Try.prog 18 #[.slice A us.length c, .slice B us.length d] w0 (Ret w0 (.bool true)) := by
  have h := eqBlocks_walk A B c d us us w0 hA hB h1
  rw [decide_eq_true rfl] at h
  exact Calls.ret h
theorem is_T (k : Nat) (w0 : World) : Calls Try.prog 15 #[errv 42 k, .int .i64 (k : Int)] w0 (Ret w0 (.bool true)) := by
  have h := is_walk k k w0
  rw [decide_eq_true rfl] at h
  exact Calls.ret h
def nineH : H32 := ⟨[9, 9] ++ List.replicate 30 0, by simp⟩
theorem relM_nil : RelM ([] : Ms) ([] : Ls) := ⟨List.nodup_nil, List.Pairwise.nil, fun _ => rfl⟩
theorem sub_play (o b7 vb mp : Assn) : Sub [mp, vb, b7, o] [o, b7, vb, mp] := Sub.of_perm (List.reverse_perm [mp, vb, b7, o])
set_option maxHeartbeats 6400000 in
theorem modelPlays_walk (n : Nat) (A : Option Addr) (c : Nat) (l : List ActL) (l5 : List Act5) (h5 : l5 = l.map ActL.flat) (w0 : World) (hA : Ro w0 [] (SlA A (acs l5))) (hl : l5.length ≤ 9223372036854775807) (hok : ∀ a ∈ l, a.Ok w0) :
    Calls Try.prog 4 #[.int .u64 (n : Int), .slice A l5.length c] w0 (Post w0 [] fun v L => v = .bool true ∧ L = []) := by
  refine Calls.of (L := []) (n := 109) (rs := [.tmp 4]) Try.func4 rfl rfl rfl (Nat.le_of_ble_eq_true rfl) (Sat.nil _) ?_
  refine TC.seq ?_
  refine TC.region ?_
  refine S.q rfl rfl (Qt.assign (by conv => lhs; whnf)) ?_
  refine S.nil ?_
  refine TC.seq ?_
  refine TC.seq ?_
  refine TC.region ?_
  refine S.opS rfl rfl (OpV.con0 Try.ent7 rfl (fun w hw => Calls.ret (alive_walk w)) ?_)
  refine S.q rfl rfl (Qt.not_t rfl) ?_
  refine S.nil ?_
  refine S.if_f rfl ?_
  refine TC.skip ?_
  refine TC.seq ?_
  refine TC.seq ?_
  refine TC.region ?_
  refine S.q rfl rfl (Qt.move (by conv => lhs; whnf)) ?_
  refine S.opS rfl rfl (OpV.con0 Try.ent13 rfl (fun w hw => Calls.ret (long_walk A c l5 w (Rd.ro hA w hw) hl)) ?_)
  generalize hlo : longB l5 = lo
  refine S.nil ?_
  refine TC.ifb rfl (fun b19 => ?_) (fun b19 => ?_)
  · refine TC.seq ?_
    refine TC.region ?_
    refine S.q rfl rfl (Qt.assign (by conv => lhs; whnf)) ?_
    refine S.nil ?_
    refine TC.ret ?_
    refine finQ.ret (RVs.tmp (by conv => lhs; whnf) RVs.nil) (Sub.nil _) ?_
    exact ⟨rfl, rfl⟩
  · refine TC.skip ?_
    refine TC.seq ?_
    refine TC.region ?_
    refine S.q rfl rfl (Qt.move (by conv => lhs; whnf)) ?_
    by_cases hn : 1 ≤ n ∧ n ≤ 4294967296
    · refine S.opS rfl rfl (OpV.con (Pre := []) (R := _) Try.ent14 rfl (List.Perm.refl _) (fun w hw => new_ok_walk n hn w) ?_)
      rintro v L' ⟨b, bm, rfl, rfl⟩
      refine S.q rfl rfl (Qt.move (by conv => lhs; whnf)) ?_
      refine S.q rfl rfl (Qt.extract rfl rfl) ?_
      refine S.q rfl rfl (Qt.extract rfl rfl) ?_
      refine S.q rfl rfl (Qt.assign (by conv => lhs; whnf)) ?_
      refine S.q rfl rfl (Qt.assign (by conv => lhs; whnf)) ?_
      refine S.nil ?_
      refine TC.seq ?_
      refine TC.seq ?_
      refine TC.region ?_
      refine S.q rfl rfl (Qt.move (by conv => lhs; whnf)) ?_
      refine S.q rfl rfl (Qt.dF (Qt.lt (b := 1) rfl rfl) (by omega)) ?_
      refine S.q rfl rfl (Qt.move (by conv => lhs; whnf)) ?_
      refine S.qg rfl rfl rfl (Qt.move (by conv => lhs; whnf)) ?_
      refine S.qg rfl rfl rfl (Qt.dF (Qt.gt (b := 4294967296) rfl rfl) (by omega)) ?_
      refine S.q rfl rfl (Qt.pick_f rfl (by conv => lhs; whnf)) ?_
      refine S.nil ?_
      refine S.if_f rfl ?_
      refine TC.skip ?_
      refine TC.seq ?_
      refine TC.region ?_
      refine S.q rfl rfl (Qt.move (by conv => lhs; whnf)) ?_
      refine S.q rfl rfl (Qt.build1 (a := .int .u64 (n : Int)) rfl (Try.build45 n)) ?_
      refine S.opS rfl rfl (OpV.alloc Try.zero45 (fun b7 => ?_))
      refine S.opN rfl (OpV.storeV0 rfl (by conv => lhs; whnf) (by exact Try.cells45) (by rfl) (by rfl) ?_)
      refine S.nil ?_
      refine TC.seq ?_
      refine TC.seq ?_
      refine TC.region ?_
      refine S.q rfl rfl (Qt.move (by conv => lhs; whnf)) ?_
      refine S.q rfl rfl (Qt.len_slice Try.underlying36 rfl) ?_
      refine S.q rfl rfl (Qt.move (by conv => lhs; whnf)) ?_
      refine S.nil ?_
      refine TC.block ?_
      have hll0 : l5.length = l.length := by rw [h5, List.length_map]
      have hl40 : l5.length ≤ 40 := longB_len (hlo.trans b19)
      refine TC.ownNil 84 33 ?_
      refine TC.loop (γ := Nat × Nat × Ms × Ls × Option Addr × Nat) [42, 43, 44, 9, 45, 46, 47, 48, 49, 50, 51, 52, 53, 54, 55, 57, 58, 59, 56, 60, 61, 10, 11, 63, 64, 65, 62, 66, 67, 68, 12, 13, 14, 69, 70, 71, 72, 73, 74, 75, 76, 77, 78, 79, 4, 80, 41] (fun g => [(41, .int .i64 ((g.1 : Nat) : Int))]) (fun g => [MapA bm encU hv g.2.2.1, Blk b 73 [.int .u64 (g.2.1 : Int), .map (some bm)], Blk b7 45 [.int .u64 (g.2.1 : Int), .slice g.2.2.2.2.1 g.2.2.2.1.length g.2.2.2.2.2], OwnA 84 33 g.2.2.2.2.1 (g.2.2.2.1).length g.2.2.2.2.2 ((g.2.2.2.1).flatMap leafL)]) (fun g => g.1 ≤ l5.length ∧ (1 ≤ g.2.1 ∧ g.2.1 ≤ 4294967296) ∧ RelM g.2.2.1 g.2.2.2.1 ∧ g.2.2.2.1.length ≤ 256 * g.1) (fun g => l5.length - g.1) ((0, n, [], [], none, 0))
        ⟨Nat.zero_le _, hn, relM_nil, Nat.zero_le _⟩ ⟨Out.refl _ _, (List.forall_mem_cons.2 ⟨rfl, (fun _ h => nomatch h)⟩)⟩ (sub_play _ _ _ _) ?_
      rintro ⟨k, m, ms, ls, A1, c1⟩ u ⟨hk, hmz, hrel, hle⟩
      dsimp only at hk hmz hrel hle
      have hml : ms.length = ls.length := hrel.len
      have hms : ms.length ≤ 10240 := by omega
      refine TC.seq ?_
      refine TC.region ?_
      refine S.dec rfl rfl (Qt.lt rfl rfl) (fun h42 => ?_) (fun h42 => ?_)
      · refine S.nil ?_
        refine TC.seq ?_
        refine S.if_t rfl ?_
        refine TC.skip ?_
        refine TC.seq ?_
        refine TC.block ?_
        refine TC.seq ?_
        refine TC.region ?_
        have hkl : k < l.length := by omega
        have ha0 := hok _ (getD_mem actL0 hkl)
        generalize hae : l.getD k actL0 = a at ha0
        have hcel := act_at hkl hae
        obtain ⟨ax, am, aq, hRa, hBa⟩ := ha0
        refine S.q rfl rfl (Qt.index Try.underlying36 Try.cells26 rfl rfl (by omega) (Has.ro hA) (by rw [acs_length]; omega)) ?_
        refine S.q rfl rfl (Qt.load rfl (Ld.slr (vs := [.int .i64 a.k, .slice a.A a.xs.length a.c, .slice a.B a.bs.length a.d, .int .u64 (a.f : Int), .int .i64 a.q]) (Has.ro hA) Try.row26 Try.cells26 (Nat.succ_pos _) (fun j v hj => by subst h5; exact hcel j v hj))) ?_
        refine S.opS rfl rfl (OpV.alloc Try.zero26 (fun b9 => ?_))
        refine S.opN rfl (OpV.storeV0 rfl (by conv => lhs; whnf) (by exact Try.cells26) (by rfl) (by rfl) ?_)
        refine S.nil ?_
        refine TC.seq ?_
        refine TC.seq ?_
        refine TC.region ?_
        refine S.q rfl rfl (Qt.field Try.underlying26 rfl Try.cells3 rfl) ?_
        refine S.q rfl rfl (Qt.load rfl (Ld.one (v := .int .i64 a.k) (Has.at 0 rfl) Try.one3 rfl)) ?_
        refine S.q rfl rfl (Qt.conv_wrap (k := a.k) Try.underlying3 Try.underlying46 rfl) ?_
        refine S.q rfl rfl (Qt.rem (b := 5) rfl rfl (by omega)) ?_
        refine S.dec rfl rfl (Qt.eq (b := 3) rfl rfl) (fun h49 => ?_) (fun h49 => ?_)
        · refine S.q rfl rfl (Qt.move (by conv => lhs; whnf)) ?_
          refine S.qg rfl rfl rfl (Qt.field Try.underlying26 rfl Try.cells3 rfl) ?_
          refine S.qg rfl rfl rfl (Qt.load rfl (Ld.one (v := .int .i64 a.q) (Has.at 0 rfl) Try.one3 rfl)) ?_
          refine S.decg rfl rfl rfl (Qt.gti rfl rfl) (fun h53 => ?_) (fun h53 => ?_)
          · refine S.q rfl rfl (Qt.pick_t rfl (by conv => lhs; whnf)) ?_
            refine S.nil ?_
            refine S.if_t rfl ?_
            refine TC.region ?_
            refine S.q rfl rfl (Qt.field Try.underlying26 rfl Try.cells3 rfl) ?_
            refine S.opN rfl (OpV.storeC0 rfl (by conv => lhs; whnf) Try.cells3 rfl rfl (Nat.le_of_ble_eq_true rfl) ?_)
            refine S.nil ?_
            refine TC.seq ?_
            refine TC.region ?_
            refine S.q rfl rfl (Qt.move (by conv => lhs; whnf)) ?_
            refine S.q rfl rfl (Qt.load rfl (Ld.all (vs := [.int .i64 a.k, .slice a.A a.xs.length a.c, .slice a.B a.bs.length a.d, .int .u64 (a.f : Int), .int .i64 257]) (Has.at 0 rfl) Try.row26 Try.cells26)) ?_
            rcases hD : doD m ls (uw a.k % 5) a.xs a.bs a.f (257) with ⟨r1, r2, r3, r4⟩
            have hz := doD_size m ls (uw a.k % 5) a.xs a.bs a.f (257) hmz
            have hbl := doD_blocks m ls (uw a.k % 5) a.xs a.bs a.f (257)
            have hll := doD_len m ls (uw a.k % 5) a.xs a.bs a.f (257)
            rw [hD] at hz hbl hll
            dsimp only at hz hbl hll
            refine S.opS rfl rfl (OpV.con (Pre := [MapA bm encU hv ms, Blk b 73 [.int .u64 (m : Int), .map (some bm)]]) (R := _) Try.ent16 rfl ((List.perm_middle (l₁ := [_])).trans (List.Perm.cons _ (List.perm_middle (l₁ := [_])))) (fun w hw => do_D b bm m ms ls hrel a (257) hD w hw.sat.left (Ro.of_pre hw hRa) (Ro.of_pre hw hBa) ax am (by omega) (by omega) (by decide)) ?_)
            rintro v L' ⟨ms2, O5, e5, rfl, -, hrel2, rfl⟩
            refine S.q rfl rfl (Qt.move (by conv => lhs; whnf)) ?_
            refine S.q rfl rfl (Qt.extract rfl rfl) ?_
            refine S.q rfl rfl (Qt.extract rfl rfl) ?_
            refine S.q rfl rfl (Qt.assign (by conv => lhs; whnf)) ?_
            refine S.q rfl rfl (Qt.assign (by conv => lhs; whnf)) ?_
            refine S.nil ?_
            refine TC.seq ?_
            refine TC.region ?_
            refine S.q rfl rfl (Qt.load rfl (Ld.all (vs := vl (.agg #[.int .u64 (m : Int), .slice A1 ls.length c1])) (Has.at 4 rfl) Try.row45 Try.cells45)) ?_
            refine S.q rfl rfl (Qt.load rfl (Ld.all (vs := [.int .i64 a.k, .slice a.A a.xs.length a.c, .slice a.B a.bs.length a.d, .int .u64 (a.f : Int), .int .i64 257]) (Has.at 3 rfl) Try.row26 Try.cells26)) ?_
            refine S.opS rfl rfl (OpV.con (Pre := []) (R := _) Try.ent17 rfl (List.Perm.refl _) (fun w hw => rdo_D m ls A1 c1 a (257) hD ax am (by omega) (by decide) hrel.rise w (by omega) (rd_own hw 5 rfl) (Rd.ro hRa w hw) (Rd.ro hBa w hw)) ?_)
            rintro v L' ⟨A2, c2, O6, e6, rfl, ⟨rfl, rfl, rfl, rfl⟩ | rfl⟩
            · refine S.q rfl rfl (Qt.move (by conv => lhs; whnf)) ?_
              refine S.q rfl rfl (Qt.extract rfl rfl) ?_
              refine S.q rfl rfl (Qt.extract rfl rfl) ?_
              refine S.q rfl rfl (Qt.extract rfl rfl) ?_
              refine S.opS rfl rfl (OpV.alloc Try.zero45 (fun b12 => ?_))
              refine S.opN rfl (OpV.storeV0 rfl (by conv => lhs; whnf) (by exact Try.cells45) (by rfl) (by rfl) ?_)
              refine S.q rfl rfl (Qt.assign (by conv => lhs; whnf)) ?_
              refine S.q rfl rfl (Qt.assign (by conv => lhs; whnf)) ?_
              refine S.nil ?_
              refine TC.seq ?_
              refine TC.region ?_
              refine S.q rfl rfl (Qt.load rfl (Ld.all (vs := vl (.agg #[.int .u64 (r3 : Int), .slice A2 r4.length c2])) (Has.at 0 rfl) Try.row45 Try.cells45)) ?_
              refine S.opN rfl (OpV.storeV6 rfl (by conv => lhs; whnf) (by exact Try.cells45) (by rfl) (by rfl) ?_)
              refine S.nil ?_
              refine TC.seq ?_
              refine TC.region ?_
              refine S.q rfl rfl (Qt.move (by conv => lhs; whnf)) ?_
              refine S.opS rfl rfl (OpV.con0 Try.ent8 rfl (fun w hw => num_errv r1 w) ?_)
              refine S.q rfl rfl (Qt.move (by conv => lhs; whnf)) ?_
              refine S.q rfl rfl (Qt.dF (Qt.ne rfl rfl) (fun h => h rfl)) ?_
              refine S.q rfl rfl (Qt.move (by conv => lhs; whnf)) ?_
              refine S.qg rfl rfl rfl (Qt.move (by conv => lhs; whnf)) ?_
              refine S.qg rfl rfl rfl (Qt.move (by conv => lhs; whnf)) ?_
              refine S.opg rfl rfl rfl (OpV.con0 Try.ent18 rfl (fun w hw => eqBlocks_T O5 O6 e5 e6 r2 w (rd_own hw 2 rfl) (rd_own hw 1 rfl) (by omega)) ?_)
              refine S.qg rfl rfl rfl (Qt.not_t rfl) ?_
              refine S.q rfl rfl (Qt.pick_f rfl (by conv => lhs; whnf)) ?_
              refine S.nil ?_
              refine S.if_f rfl ?_
              refine TC.skip ?_
              refine TC.region ?_
              refine S.q rfl rfl (Qt.add (b := 1) rfl rfl (by simp only [kmax]; omega)) ?_
              refine S.q rfl rfl (Qt.move (by conv => lhs; whnf)) ?_
              refine S.nil ?_
              refine ⟨(k + 1, r3, ms2, r4, A2, c2), ?_, ?_, ⟨?_, (List.forall_mem_cons.2 ⟨rfl, (fun _ h => nomatch h)⟩)⟩, Sub.trans (Sub.keep _ (Sub.keep _ (Sub.keep _ (Sub.keep _ (Sub.drop _ (Sub.drop _ (Sub.drop _ (Sub.drop _ (Sub.nil []))))))))) (Sub.trans (Sub.keep _ (Sub.trans (Sub.keep _ (Sub.trans (Sub.keep _ (Sub.trans (Sub.keep _ (Sub.refl _)) (Sub.of_perm (List.perm_middle (l₁ := [_, _, _, _]))))) (Sub.of_perm (List.perm_middle (l₁ := [_, _, _, _]))))) (Sub.of_perm (List.perm_middle (l₁ := [_, _, _]))))) (Sub.of_perm (List.perm_middle (l₁ := [_, _, _]))))⟩
              · exact ⟨by show _ ≤ _; dsimp only; omega, hz, hrel2, by show _ ≤ _; dsimp only; omega⟩
              · show _ < _; dsimp only; omega
              repeat (first | exact Out.refl _ _ | refine Out.put rfl ?_ | refine Out.puts rfl ?_ | refine Out.scr ?_ | refine Out.scr' rfl ?_)
            · refine S.q rfl rfl (Qt.move (by conv => lhs; whnf)) ?_
              refine S.q rfl rfl (Qt.extract rfl rfl) ?_
              refine S.q rfl rfl (Qt.extract rfl rfl) ?_
              refine S.q rfl rfl (Qt.extract rfl rfl) ?_
              refine S.opS rfl rfl (OpV.alloc Try.zero45 (fun b12 => ?_))
              refine S.opN rfl (OpV.storeV0 rfl (by conv => lhs; whnf) (by exact Try.cells45) (by rfl) (by rfl) ?_)
              refine S.q rfl rfl (Qt.assign (by conv => lhs; whnf)) ?_
              refine S.q rfl rfl (Qt.assign (by conv => lhs; whnf)) ?_
              refine S.nil ?_
              refine TC.seq ?_
              refine TC.region ?_
              refine S.q rfl rfl (Qt.load rfl (Ld.all (vs := vl (.agg #[.int .u64 (r3 : Int), .slice A2 r4.length c2])) (Has.at 0 rfl) Try.row45 Try.cells45)) ?_
              refine S.opN rfl (OpV.storeV7 rfl (by conv => lhs; whnf) (by exact Try.cells45) (by rfl) (by rfl) ?_)
              refine S.nil ?_
              refine TC.seq ?_
              refine TC.region ?_
              refine S.q rfl rfl (Qt.move (by conv => lhs; whnf)) ?_
              refine S.opS rfl rfl (OpV.con0 Try.ent8 rfl (fun w hw => num_errv r1 w) ?_)
              refine S.q rfl rfl (Qt.move (by conv => lhs; whnf)) ?_
              refine S.q rfl rfl (Qt.dF (Qt.ne rfl rfl) (fun h => h rfl)) ?_
              refine S.q rfl rfl (Qt.move (by conv => lhs; whnf)) ?_
              refine S.qg rfl rfl rfl (Qt.move (by conv => lhs; whnf)) ?_
              refine S.qg rfl rfl rfl (Qt.move (by conv => lhs; whnf)) ?_
              refine S.opg rfl rfl rfl (OpV.con0 Try.ent18 rfl (fun w hw => eqBlocks_T O5 O6 e5 e6 r2 w (rd_own hw 3 rfl) (rd_own hw 1 rfl) (by omega)) ?_)
              refine S.qg rfl rfl rfl (Qt.not_t rfl) ?_
              refine S.q rfl rfl (Qt.pick_f rfl (by conv => lhs; whnf)) ?_
              refine S.nil ?_
              refine S.if_f rfl ?_
              refine TC.skip ?_
              refine TC.region ?_
              refine S.q rfl rfl (Qt.add (b := 1) rfl rfl (by simp only [kmax]; omega)) ?_
              refine S.q rfl rfl (Qt.move (by conv => lhs; whnf)) ?_
              refine S.nil ?_
              refine ⟨(k + 1, r3, ms2, r4, A2, c2), ?_, ?_, ⟨?_, (List.forall_mem_cons.2 ⟨rfl, (fun _ h => nomatch h)⟩)⟩, Sub.trans (Sub.keep _ (Sub.keep _ (Sub.keep _ (Sub.keep _ (Sub.drop _ (Sub.drop _ (Sub.drop _ (Sub.drop _ (Sub.drop _ (Sub.nil [])))))))))) (Sub.trans (Sub.keep _ (Sub.trans (Sub.keep _ (Sub.trans (Sub.keep _ (Sub.trans (Sub.keep _ (Sub.refl _)) (Sub.of_perm (List.perm_middle (l₁ := [_, _]))))) (Sub.of_perm (List.perm_middle (l₁ := [_, _, _, _, _]))))) (Sub.of_perm (List.perm_middle (l₁ := [_, _, _, _]))))) (Sub.of_perm (List.perm_middle (l₁ := [_, _, _, _]))))⟩
              · exact ⟨by show _ ≤ _; dsimp only; omega, hz, hrel2, by show _ ≤ _; dsimp only; omega⟩
              · show _ < _; dsimp only; omega
              repeat (first | exact Out.refl _ _ | refine Out.put rfl ?_ | refine Out.puts rfl ?_ | refine Out.scr ?_ | refine Out.scr' rfl ?_)
          · refine S.q rfl rfl (Qt.pick_t rfl (by conv => lhs; whnf)) ?_
            refine S.nil ?_
            refine S.if_f rfl ?_
            refine TC.skip ?_
            refine TC.seq ?_
            refine TC.region ?_
            refine S.q rfl rfl (Qt.move (by conv => lhs; whnf)) ?_
            refine S.q rfl rfl (Qt.load rfl (Ld.all (vs := [.int .i64 a.k, .slice a.A a.xs.length a.c, .slice a.B a.bs.length a.d, .int .u64 (a.f : Int), .int .i64 a.q]) (Has.at 0 rfl) Try.row26 Try.cells26)) ?_
            rcases hD : doD m ls (uw a.k % 5) a.xs a.bs a.f (a.q) with ⟨r1, r2, r3, r4⟩
            have hz := doD_size m ls (uw a.k % 5) a.xs a.bs a.f (a.q) hmz
            have hbl := doD_blocks m ls (uw a.k % 5) a.xs a.bs a.f (a.q)
            have hll := doD_len m ls (uw a.k % 5) a.xs a.bs a.f (a.q)
            rw [hD] at hz hbl hll
            dsimp only at hz hbl hll
            refine S.opS rfl rfl (OpV.con (Pre := [MapA bm encU hv ms, Blk b 73 [.int .u64 (m : Int), .map (some bm)]]) (R := _) Try.ent16 rfl ((List.perm_middle (l₁ := [_])).trans (List.Perm.cons _ (List.perm_middle (l₁ := [_])))) (fun w hw => do_D b bm m ms ls hrel a (a.q) hD w hw.sat.left (Ro.of_pre hw hRa) (Ro.of_pre hw hBa) ax am (by omega) (by omega) aq) ?_)
            rintro v L' ⟨ms2, O5, e5, rfl, -, hrel2, rfl⟩
            refine S.q rfl rfl (Qt.move (by conv => lhs; whnf)) ?_
            refine S.q rfl rfl (Qt.extract rfl rfl) ?_
            refine S.q rfl rfl (Qt.extract rfl rfl) ?_
            refine S.q rfl rfl (Qt.assign (by conv => lhs; whnf)) ?_
            refine S.q rfl rfl (Qt.assign (by conv => lhs; whnf)) ?_
            refine S.nil ?_
            refine TC.seq ?_
            refine TC.region ?_
            refine S.q rfl rfl (Qt.load rfl (Ld.all (vs := vl (.agg #[.int .u64 (m : Int), .slice A1 ls.length c1])) (Has.at 4 rfl) Try.row45 Try.cells45)) ?_
            refine S.q rfl rfl (Qt.load rfl (Ld.all (vs := [.int .i64 a.k, .slice a.A a.xs.length a.c, .slice a.B a.bs.length a.d, .int .u64 (a.f : Int), .int .i64 a.q]) (Has.at 3 rfl) Try.row26 Try.cells26)) ?_
            refine S.opS rfl rfl (OpV.con (Pre := []) (R := _) Try.ent17 rfl (List.Perm.refl _) (fun w hw => rdo_D m ls A1 c1 a (a.q) hD ax am (by omega) aq hrel.rise w (by omega) (rd_own hw 5 rfl) (Rd.ro hRa w hw) (Rd.ro hBa w hw)) ?_)
            rintro v L' ⟨A2, c2, O6, e6, rfl, ⟨rfl, rfl, rfl, rfl⟩ | rfl⟩
            · refine S.q rfl rfl (Qt.move (by conv => lhs; whnf)) ?_
              refine S.q rfl rfl (Qt.extract rfl rfl) ?_
              refine S.q rfl rfl (Qt.extract rfl rfl) ?_
              refine S.q rfl rfl (Qt.extract rfl rfl) ?_
              refine S.opS rfl rfl (OpV.alloc Try.zero45 (fun b12 => ?_))
              refine S.opN rfl (OpV.storeV0 rfl (by conv => lhs; whnf) (by exact Try.cells45) (by rfl) (by rfl) ?_)
              refine S.q rfl rfl (Qt.assign (by conv => lhs; whnf)) ?_
              refine S.q rfl rfl (Qt.assign (by conv => lhs; whnf)) ?_
              refine S.nil ?_
              refine TC.seq ?_
              refine TC.region ?_
              refine S.q rfl rfl (Qt.load rfl (Ld.all (vs := vl (.agg #[.int .u64 (r3 : Int), .slice A2 r4.length c2])) (Has.at 0 rfl) Try.row45 Try.cells45)) ?_
              refine S.opN rfl (OpV.storeV6 rfl (by conv => lhs; whnf) (by exact Try.cells45) (by rfl) (by rfl) ?_)
              refine S.nil ?_
              refine TC.seq ?_
              refine TC.region ?_
              refine S.q rfl rfl (Qt.move (by conv => lhs; whnf)) ?_
              refine S.opS rfl rfl (OpV.con0 Try.ent8 rfl (fun w hw => num_errv r1 w) ?_)
              refine S.q rfl rfl (Qt.move (by conv => lhs; whnf)) ?_
              refine S.q rfl rfl (Qt.dF (Qt.ne rfl rfl) (fun h => h rfl)) ?_
              refine S.q rfl rfl (Qt.move (by conv => lhs; whnf)) ?_
              refine S.qg rfl rfl rfl (Qt.move (by conv => lhs; whnf)) ?_
              refine S.qg rfl rfl rfl (Qt.move (by conv => lhs; whnf)) ?_
              refine S.opg rfl rfl rfl (OpV.con0 Try.ent18 rfl (fun w hw => eqBlocks_T O5 O6 e5 e6 r2 w (rd_own hw 2 rfl) (rd_own hw 1 rfl) (by omega)) ?_)
              refine S.qg rfl rfl rfl (Qt.not_t rfl) ?_
              refine S.q rfl rfl (Qt.pick_f rfl (by conv => lhs; whnf)) ?_
              refine S.nil ?_
              refine S.if_f rfl ?_
              refine TC.skip ?_
              refine TC.region ?_
              refine S.q rfl rfl (Qt.add (b := 1) rfl rfl (by simp only [kmax]; omega)) ?_
              refine S.q rfl rfl (Qt.move (by conv => lhs; whnf)) ?_
              refine S.nil ?_
              refine ⟨(k + 1, r3, ms2, r4, A2, c2), ?_, ?_, ⟨?_, (List.forall_mem_cons.2 ⟨rfl, (fun _ h => nomatch h)⟩)⟩, Sub.trans (Sub.keep _ (Sub.keep _ (Sub.keep _ (Sub.keep _ (Sub.drop _ (Sub.drop _ (Sub.drop _ (Sub.drop _ (Sub.nil []))))))))) (Sub.trans (Sub.keep _ (Sub.trans (Sub.keep _ (Sub.trans (Sub.keep _ (Sub.trans (Sub.keep _ (Sub.refl _)) (Sub.of_perm (List.perm_middle (l₁ := [_, _, _, _]))))) (Sub.of_perm (List.perm_middle (l₁ := [_, _, _, _]))))) (Sub.of_perm (List.perm_middle (l₁ := [_, _, _]))))) (Sub.of_perm (List.perm_middle (l₁ := [_, _, _]))))⟩
              · exact ⟨by show _ ≤ _; dsimp only; omega, hz, hrel2, by show _ ≤ _; dsimp only; omega⟩
              · show _ < _; dsimp only; omega
              repeat (first | exact Out.refl _ _ | refine Out.put rfl ?_ | refine Out.puts rfl ?_ | refine Out.scr ?_ | refine Out.scr' rfl ?_)
            · refine S.q rfl rfl (Qt.move (by conv => lhs; whnf)) ?_
              refine S.q rfl rfl (Qt.extract rfl rfl) ?_
              refine S.q rfl rfl (Qt.extract rfl rfl) ?_
              refine S.q rfl rfl (Qt.extract rfl rfl) ?_
              refine S.opS rfl rfl (OpV.alloc Try.zero45 (fun b12 => ?_))
              refine S.opN rfl (OpV.storeV0 rfl (by conv => lhs; whnf) (by exact Try.cells45) (by rfl) (by rfl) ?_)
              refine S.q rfl rfl (Qt.assign (by conv => lhs; whnf)) ?_
              refine S.q rfl rfl (Qt.assign (by conv => lhs; whnf)) ?_
              refine S.nil ?_
              refine TC.seq ?_
              refine TC.region ?_
              refine S.q rfl rfl (Qt.load rfl (Ld.all (vs := vl (.agg #[.int .u64 (r3 : Int), .slice A2 r4.length c2])) (Has.at 0 rfl) Try.row45 Try.cells45)) ?_
              refine S.opN rfl (OpV.storeV7 rfl (by conv => lhs; whnf) (by exact Try.cells45) (by rfl) (by rfl) ?_)
              refine S.nil ?_
              refine TC.seq ?_
              refine TC.region ?_
              refine S.q rfl rfl (Qt.move (by conv => lhs; whnf)) ?_
              refine S.opS rfl rfl (OpV.con0 Try.ent8 rfl (fun w hw => num_errv r1 w) ?_)
              refine S.q rfl rfl (Qt.move (by conv => lhs; whnf)) ?_
              refine S.q rfl rfl (Qt.dF (Qt.ne rfl rfl) (fun h => h rfl)) ?_
              refine S.q rfl rfl (Qt.move (by conv => lhs; whnf)) ?_
              refine S.qg rfl rfl rfl (Qt.move (by conv => lhs; whnf)) ?_
              refine S.qg rfl rfl rfl (Qt.move (by conv => lhs; whnf)) ?_
              refine S.opg rfl rfl rfl (OpV.con0 Try.ent18 rfl (fun w hw => eqBlocks_T O5 O6 e5 e6 r2 w (rd_own hw 3 rfl) (rd_own hw 1 rfl) (by omega)) ?_)
              refine S.qg rfl rfl rfl (Qt.not_t rfl) ?_
              refine S.q rfl rfl (Qt.pick_f rfl (by conv => lhs; whnf)) ?_
              refine S.nil ?_
              refine S.if_f rfl ?_
              refine TC.skip ?_
              refine TC.region ?_
              refine S.q rfl rfl (Qt.add (b := 1) rfl rfl (by simp only [kmax]; omega)) ?_
              refine S.q rfl rfl (Qt.move (by conv => lhs; whnf)) ?_
              refine S.nil ?_
              refine ⟨(k + 1, r3, ms2, r4, A2, c2), ?_, ?_, ⟨?_, (List.forall_mem_cons.2 ⟨rfl, (fun _ h => nomatch h)⟩)⟩, Sub.trans (Sub.keep _ (Sub.keep _ (Sub.keep _ (Sub.keep _ (Sub.drop _ (Sub.drop _ (Sub.drop _ (Sub.drop _ (Sub.drop _ (Sub.nil [])))))))))) (Sub.trans (Sub.keep _ (Sub.trans (Sub.keep _ (Sub.trans (Sub.keep _ (Sub.trans (Sub.keep _ (Sub.refl _)) (Sub.of_perm (List.perm_middle (l₁ := [_, _]))))) (Sub.of_perm (List.perm_middle (l₁ := [_, _, _, _, _]))))) (Sub.of_perm (List.perm_middle (l₁ := [_, _, _, _]))))) (Sub.of_perm (List.perm_middle (l₁ := [_, _, _, _]))))⟩
              · exact ⟨by show _ ≤ _; dsimp only; omega, hz, hrel2, by show _ ≤ _; dsimp only; omega⟩
              · show _ < _; dsimp only; omega
              repeat (first | exact Out.refl _ _ | refine Out.put rfl ?_ | refine Out.puts rfl ?_ | refine Out.scr ?_ | refine Out.scr' rfl ?_)
        · refine S.q rfl rfl (Qt.move (by conv => lhs; whnf)) ?_
          refine S.pass rfl rfl ?_
          refine S.pass rfl rfl ?_
          refine S.pass rfl rfl ?_
          refine S.q rfl rfl (Qt.pick_f rfl (by conv => lhs; whnf)) ?_
          refine S.nil ?_
          refine S.if_f rfl ?_
          refine TC.skip ?_
          refine TC.seq ?_
          refine TC.region ?_
          refine S.q rfl rfl (Qt.move (by conv => lhs; whnf)) ?_
          refine S.q rfl rfl (Qt.load rfl (Ld.all (vs := [.int .i64 a.k, .slice a.A a.xs.length a.c, .slice a.B a.bs.length a.d, .int .u64 (a.f : Int), .int .i64 a.q]) (Has.at 0 rfl) Try.row26 Try.cells26)) ?_
          rcases hD : doD m ls (uw a.k % 5) a.xs a.bs a.f (a.q) with ⟨r1, r2, r3, r4⟩
          have hz := doD_size m ls (uw a.k % 5) a.xs a.bs a.f (a.q) hmz
          have hbl := doD_blocks m ls (uw a.k % 5) a.xs a.bs a.f (a.q)
          have hll := doD_len m ls (uw a.k % 5) a.xs a.bs a.f (a.q)
          rw [hD] at hz hbl hll
          dsimp only at hz hbl hll
          refine S.opS rfl rfl (OpV.con (Pre := [MapA bm encU hv ms, Blk b 73 [.int .u64 (m : Int), .map (some bm)]]) (R := _) Try.ent16 rfl ((List.perm_middle (l₁ := [_])).trans (List.Perm.cons _ (List.perm_middle (l₁ := [_])))) (fun w hw => do_D b bm m ms ls hrel a (a.q) hD w hw.sat.left (Ro.of_pre hw hRa) (Ro.of_pre hw hBa) ax am (by omega) (by omega) aq) ?_)
          rintro v L' ⟨ms2, O5, e5, rfl, -, hrel2, rfl⟩
          refine S.q rfl rfl (Qt.move (by conv => lhs; whnf)) ?_
          refine S.q rfl rfl (Qt.extract rfl rfl) ?_
          refine S.q rfl rfl (Qt.extract rfl rfl) ?_
          refine S.q rfl rfl (Qt.assign (by conv => lhs; whnf)) ?_
          refine S.q rfl rfl (Qt.assign (by conv => lhs; whnf)) ?_
          refine S.nil ?_
          refine TC.seq ?_
          refine TC.region ?_
          refine S.q rfl rfl (Qt.load rfl (Ld.all (vs := vl (.agg #[.int .u64 (m : Int), .slice A1 ls.length c1])) (Has.at 4 rfl) Try.row45 Try.cells45)) ?_
          refine S.q rfl rfl (Qt.load rfl (Ld.all (vs := [.int .i64 a.k, .slice a.A a.xs.length a.c, .slice a.B a.bs.length a.d, .int .u64 (a.f : Int), .int .i64 a.q]) (Has.at 3 rfl) Try.row26 Try.cells26)) ?_
          refine S.opS rfl rfl (OpV.con (Pre := []) (R := _) Try.ent17 rfl (List.Perm.refl _) (fun w hw => rdo_D m ls A1 c1 a (a.q) hD ax am (by omega) aq hrel.rise w (by omega) (rd_own hw 5 rfl) (Rd.ro hRa w hw) (Rd.ro hBa w hw)) ?_)
          rintro v L' ⟨A2, c2, O6, e6, rfl, ⟨rfl, rfl, rfl, rfl⟩ | rfl⟩
          · refine S.q rfl rfl (Qt.move (by conv => lhs; whnf)) ?_
            refine S.q rfl rfl (Qt.extract rfl rfl) ?_
            refine S.q rfl rfl (Qt.extract rfl rfl) ?_
            refine S.q rfl rfl (Qt.extract rfl rfl) ?_
            refine S.opS rfl rfl (OpV.alloc Try.zero45 (fun b12 => ?_))
            refine S.opN rfl (OpV.storeV0 rfl (by conv => lhs; whnf) (by exact Try.cells45) (by rfl) (by rfl) ?_)
            refine S.q rfl rfl (Qt.assign (by conv => lhs; whnf)) ?_
            refine S.q rfl rfl (Qt.assign (by conv => lhs; whnf)) ?_
            refine S.nil ?_
            refine TC.seq ?_
            refine TC.region ?_
            refine S.q rfl rfl (Qt.load rfl (Ld.all (vs := vl (.agg #[.int .u64 (r3 : Int), .slice A2 r4.length c2])) (Has.at 0 rfl) Try.row45 Try.cells45)) ?_
            refine S.opN rfl (OpV.storeV6 rfl (by conv => lhs; whnf) (by exact Try.cells45) (by rfl) (by rfl) ?_)
            refine S.nil ?_
            refine TC.seq ?_
            refine TC.region ?_
            refine S.q rfl rfl (Qt.move (by conv => lhs; whnf)) ?_
            refine S.opS rfl rfl (OpV.con0 Try.ent8 rfl (fun w hw => num_errv r1 w) ?_)
            refine S.q rfl rfl (Qt.move (by conv => lhs; whnf)) ?_
            refine S.q rfl rfl (Qt.dF (Qt.ne rfl rfl) (fun h => h rfl)) ?_
            refine S.q rfl rfl (Qt.move (by conv => lhs; whnf)) ?_
            refine S.qg rfl rfl rfl (Qt.move (by conv => lhs; whnf)) ?_
            refine S.qg rfl rfl rfl (Qt.move (by conv => lhs; whnf)) ?_
            refine S.opg rfl rfl rfl (OpV.con0 Try.ent18 rfl (fun w hw => eqBlocks_T O5 O6 e5 e6 r2 w (rd_own hw 2 rfl) (rd_own hw 1 rfl) (by omega)) ?_)
            refine S.qg rfl rfl rfl (Qt.not_t rfl) ?_
            refine S.q rfl rfl (Qt.pick_f rfl (by conv => lhs; whnf)) ?_
            refine S.nil ?_
            refine S.if_f rfl ?_
            refine TC.skip ?_
            refine TC.region ?_
            refine S.q rfl rfl (Qt.add (b := 1) rfl rfl (by simp only [kmax]; omega)) ?_
            refine S.q rfl rfl (Qt.move (by conv => lhs; whnf)) ?_
            refine S.nil ?_
            refine ⟨(k + 1, r3, ms2, r4, A2, c2), ?_, ?_, ⟨?_, (List.forall_mem_cons.2 ⟨rfl, (fun _ h => nomatch h)⟩)⟩, Sub.trans (Sub.keep _ (Sub.keep _ (Sub.keep _ (Sub.keep _ (Sub.drop _ (Sub.drop _ (Sub.drop _ (Sub.drop _ (Sub.nil []))))))))) (Sub.trans (Sub.keep _ (Sub.trans (Sub.keep _ (Sub.trans (Sub.keep _ (Sub.trans (Sub.keep _ (Sub.refl _)) (Sub.of_perm (List.perm_middle (l₁ := [_, _, _, _]))))) (Sub.of_perm (List.perm_middle (l₁ := [_, _, _, _]))))) (Sub.of_perm (List.perm_middle (l₁ := [_, _, _]))))) (Sub.of_perm (List.perm_middle (l₁ := [_, _, _]))))⟩
            · exact ⟨by show _ ≤ _; dsimp only; omega, hz, hrel2, by show _ ≤ _; dsimp only; omega⟩
            · show _ < _; dsimp only; omega
            repeat (first | exact Out.refl _ _ | refine Out.put rfl ?_ | refine Out.puts rfl ?_ | refine Out.scr ?_ | refine Out.scr' rfl ?_)
          · refine S.q rfl rfl (Qt.move (by conv => lhs; whnf)) ?_
            refine S.q rfl rfl (Qt.extract rfl rfl) ?_
            refine S.q rfl rfl (Qt.extract rfl rfl) ?_
            refine S.q rfl rfl (Qt.extract rfl rfl) ?_
            refine S.opS rfl rfl (OpV.alloc Try.zero45 (fun b12 => ?_))
            refine S.opN rfl (OpV.storeV0 rfl (by conv => lhs; whnf) (by exact Try.cells45) (by rfl) (by rfl) ?_)
            refine S.q rfl rfl (Qt.assign (by conv => lhs; whnf)) ?_
            refine S.q rfl rfl (Qt.assign (by conv => lhs; whnf)) ?_
            refine S.nil ?_
            refine TC.seq ?_
            refine TC.region ?_
            refine S.q rfl rfl (Qt.load rfl (Ld.all (vs := vl (.agg #[.int .u64 (r3 : Int), .slice A2 r4.length c2])) (Has.at 0 rfl) Try.row45 Try.cells45)) ?_
            refine S.opN rfl (OpV.storeV7 rfl (by conv => lhs; whnf) (by exact Try.cells45) (by rfl) (by rfl) ?_)
            refine S.nil ?_
            refine TC.seq ?_
            refine TC.region ?_
            refine S.q rfl rfl (Qt.move (by conv => lhs; whnf)) ?_
            refine S.opS rfl rfl (OpV.con0 Try.ent8 rfl (fun w hw => num_errv r1 w) ?_)
            refine S.q rfl rfl (Qt.move (by conv => lhs; whnf)) ?_
            refine S.q rfl rfl (Qt.dF (Qt.ne rfl rfl) (fun h => h rfl)) ?_
            refine S.q rfl rfl (Qt.move (by conv => lhs; whnf)) ?_
            refine S.qg rfl rfl rfl (Qt.move (by conv => lhs; whnf)) ?_
            refine S.qg rfl rfl rfl (Qt.move (by conv => lhs; whnf)) ?_
            refine S.opg rfl rfl rfl (OpV.con0 Try.ent18 rfl (fun w hw => eqBlocks_T O5 O6 e5 e6 r2 w (rd_own hw 3 rfl) (rd_own hw 1 rfl) (by omega)) ?_)
            refine S.qg rfl rfl rfl (Qt.not_t rfl) ?_
            refine S.q rfl rfl (Qt.pick_f rfl (by conv => lhs; whnf)) ?_
            refine S.nil ?_
            refine S.if_f rfl ?_
            refine TC.skip ?_
            refine TC.region ?_
            refine S.q rfl rfl (Qt.add (b := 1) rfl rfl (by simp only [kmax]; omega)) ?_
            refine S.q rfl rfl (Qt.move (by conv => lhs; whnf)) ?_
            refine S.nil ?_
            refine ⟨(k + 1, r3, ms2, r4, A2, c2), ?_, ?_, ⟨?_, (List.forall_mem_cons.2 ⟨rfl, (fun _ h => nomatch h)⟩)⟩, Sub.trans (Sub.keep _ (Sub.keep _ (Sub.keep _ (Sub.keep _ (Sub.drop _ (Sub.drop _ (Sub.drop _ (Sub.drop _ (Sub.drop _ (Sub.nil [])))))))))) (Sub.trans (Sub.keep _ (Sub.trans (Sub.keep _ (Sub.trans (Sub.keep _ (Sub.trans (Sub.keep _ (Sub.refl _)) (Sub.of_perm (List.perm_middle (l₁ := [_, _]))))) (Sub.of_perm (List.perm_middle (l₁ := [_, _, _, _, _]))))) (Sub.of_perm (List.perm_middle (l₁ := [_, _, _, _]))))) (Sub.of_perm (List.perm_middle (l₁ := [_, _, _, _]))))⟩
            · exact ⟨by show _ ≤ _; dsimp only; omega, hz, hrel2, by show _ ≤ _; dsimp only; omega⟩
            · show _ < _; dsimp only; omega
            repeat (first | exact Out.refl _ _ | refine Out.put rfl ?_ | refine Out.puts rfl ?_ | refine Out.scr ?_ | refine Out.scr' rfl ?_)
      · refine S.nil ?_
        refine TC.seq ?_
        refine S.if_f rfl ?_
        refine TC.exit ?_
        refine TC.seq ?_
        refine TC.region ?_
        refine S.q rfl rfl (Qt.move (by conv => lhs; whnf)) ?_
        refine S.opS rfl rfl (OpV.con (Pre := []) (R := _) Try.ent19 rfl (List.Perm.refl _) (fun w hw => copy_walk b bm m ms w (Rd.at 1 rfl w hw) (Rd.at 0 rfl w hw)) ?_)
        rintro v L' ⟨b2, bm2, rfl, rfl⟩
        refine S.q rfl rfl (Qt.assign (by conv => lhs; whnf)) ?_
        refine S.nil ?_
        refine TC.seq ?_
        refine TC.seq ?_
        refine TC.region ?_
        refine S.q rfl rfl (Qt.move (by conv => lhs; whnf)) ?_
        refine S.q rfl rfl (Qt.load rfl (Ld.all (vs := vl (.agg #[.int .u64 (m : Int), .slice A1 ls.length c1])) (Has.at 4 rfl) Try.row45 Try.cells45)) ?_
        refine S.opS rfl rfl (OpV.con0 Try.ent20 rfl (fun w hw => is20_R b bm m ms (by omega) ls A1 c1 hrel w (Rd.at 3 rfl w hw) (Rd.at 2 rfl w hw) (rd_own hw 5 rfl)) ?_)
        refine S.q rfl rfl (Qt.not_t rfl) ?_
        refine S.q rfl rfl (Qt.move (by conv => lhs; whnf)) ?_
        refine S.qg rfl rfl rfl (Qt.move (by conv => lhs; whnf)) ?_
        refine S.qg rfl rfl rfl (Qt.move (by conv => lhs; whnf)) ?_
        refine S.opg rfl rfl rfl (OpV.con0 Try.ent21 rfl (fun w hw => same21_R b bm m b2 bm2 ms (by omega) w (Rd.at 3 rfl w hw) (Rd.at 2 rfl w hw) (Rd.at 0 rfl w hw) (Rd.at 1 rfl w hw)) ?_)
        refine S.qg rfl rfl rfl (Qt.not_t rfl) ?_
        refine S.q rfl rfl (Qt.pick_f rfl (by conv => lhs; whnf)) ?_
        refine S.q rfl rfl (Qt.move (by conv => lhs; whnf)) ?_
        refine S.qg rfl rfl rfl (Qt.move (by conv => lhs; whnf)) ?_
        refine S.qg rfl rfl rfl (Qt.load rfl (Ld.all (vs := vl (.agg #[.int .u64 (m : Int), .slice A1 ls.length c1])) (Has.at 4 rfl) Try.row45 Try.cells45)) ?_
        refine S.opg rfl rfl rfl (OpV.con0 Try.ent20 rfl (fun w hw => is20_R b2 bm2 m ms (by omega) ls A1 c1 hrel w (Rd.at 0 rfl w hw) (Rd.at 1 rfl w hw) (rd_own hw 5 rfl)) ?_)
        refine S.qg rfl rfl rfl (Qt.not_t rfl) ?_
        refine S.q rfl rfl (Qt.pick_f rfl (by conv => lhs; whnf)) ?_
        refine S.nil ?_
        refine S.if_f rfl ?_
        refine TC.skip ?_
        refine TC.seq ?_
        refine TC.region ?_
        refine S.q rfl rfl (Qt.move (by conv => lhs; whnf)) ?_
        refine S.opS rfl rfl (OpV.con (Pre := [MapA bm2 encU hv ms, Blk b2 73 [.int .u64 (m : Int), .map (some bm2)]]) (R := _) Try.ent22 rfl (List.perm_middle (l₁ := [_])) (fun w hw => resize_walk b2 bm2 m 1 ms w hw.sat.left (by omega)) ?_)
        rintro v L' ⟨rfl, rfl⟩
        rcases resizeM m ms 1 with ⟨s1, s2, s3⟩
        dsimp only
        refine S.nil ?_
        refine TC.seq ?_
        refine TC.region ?_
        refine S.q rfl rfl (Qt.move (by conv => lhs; whnf)) ?_
        refine S.opS rfl rfl (OpV.slice1 (bytes := 8) (v := .int .u64 ((0 : Nat) : Int)) Try.underlying22 Try.elem24 (by decide) rfl rfl (fun g102 => ?_))
        refine S.q rfl rfl (Qt.build (v := hv nineH) rfl (fun _ => by kernel_rfl)) ?_
        refine S.opS rfl rfl (OpV.slice1 (bytes := 32) (v := hv nineH) Try.underlying23 Try.elem58 (by decide) rfl (by rw [vl_hv, hvl_length]) (fun g104 => ?_))
        refine S.opS rfl rfl (OpV.con (Pre := [MapA bm2 encU hv s3]) (R := _) Try.ent23 rfl (List.perm_middle (l₁ := [_, _])) (fun w hw => write_walk b2 bm2 s2 s3 (some ⟨g102, 0, none⟩) (some ⟨g104, 0, none⟩) 1 1 [0] [nineH] w hw.sat.left (Ro.of_rest hw (List.mem_cons_of_mem _ (List.mem_cons_of_mem _ (List.mem_cons_self ..)))) (Ro.of_rest hw (List.mem_cons_of_mem _ (List.mem_cons_self ..))).blk (by have h := (Ro.of_rest hw (List.mem_cons_self ..)).blk; rw [vl_hv] at h; rw [hcs_cons, hcs_nil, List.append_nil]; exact h) (by decide) (by decide)) ?_)
        rintro v L' ⟨rfl, rfl⟩
        refine S.nil ?_
        refine TC.seq ?_
        refine TC.region ?_
        refine S.q rfl rfl (Qt.move (by conv => lhs; whnf)) ?_
        refine S.q rfl rfl (Qt.load rfl (Ld.all (vs := vl (.agg #[.int .u64 (m : Int), .slice A1 ls.length c1])) (Has.at 6 rfl) Try.row45 Try.cells45)) ?_
        refine S.opS rfl rfl (OpV.con0 Try.ent20 rfl (fun w hw => is20_R b bm m ms (by omega) ls A1 c1 hrel w (Rd.at 5 rfl w hw) (Rd.at 4 rfl w hw) (rd_own hw 7 rfl)) ?_)
        refine S.q rfl rfl (Qt.assign (by conv => lhs; whnf)) ?_
        refine S.nil ?_
        refine TC.ret ?_
        refine finQ.ret (RVs.tmp (by conv => lhs; whnf) RVs.nil) (Sub.nil _) ?_
        exact ⟨rfl, rfl⟩
    · refine S.opS rfl rfl (OpV.con0 Try.ent14 rfl (fun w hw => Calls.ret (new_bad_walk n hn w)) ?_)
      refine S.q rfl rfl (Qt.move (by conv => lhs; whnf)) ?_
      refine S.q rfl rfl (Qt.extract rfl rfl) ?_
      refine S.q rfl rfl (Qt.extract rfl rfl) ?_
      refine S.q rfl rfl (Qt.assign (by conv => lhs; whnf)) ?_
      refine S.q rfl rfl (Qt.assign (by conv => lhs; whnf)) ?_
      refine S.nil ?_
      refine TC.seq ?_
      refine TC.seq ?_
      refine TC.region ?_
      refine S.q rfl rfl (Qt.move (by conv => lhs; whnf)) ?_
      refine S.dec rfl rfl (Qt.lt (b := 1) rfl rfl) (fun h26 => ?_) (fun h26 => ?_)
      · refine S.q rfl rfl (Qt.move (by conv => lhs; whnf)) ?_
        refine S.pass rfl rfl ?_
        refine S.pass rfl rfl ?_
        refine S.q rfl rfl (Qt.pick_t rfl (by conv => lhs; whnf)) ?_
        refine S.nil ?_
        refine S.if_t rfl ?_
        refine TC.seq ?_
        refine TC.region ?_
        refine S.q rfl rfl (Qt.move (by conv => lhs; whnf)) ?_
        refine S.opS rfl rfl (OpV.con0 Try.ent15 rfl (fun w hw => is_T 1 w) ?_)
        refine S.q rfl rfl (Qt.move (by conv => lhs; whnf)) ?_
        refine S.qg rfl rfl rfl (Qt.move (by conv => lhs; whnf)) ?_
        refine S.qg rfl rfl rfl (Qt.eqp_none Try.underlying38 rfl) ?_
        refine S.q rfl rfl (Qt.pick_t rfl (by conv => lhs; whnf)) ?_
        refine S.q rfl rfl (Qt.assign (by conv => lhs; whnf)) ?_
        refine S.nil ?_
        refine TC.ret ?_
        refine finQ.ret (RVs.tmp (by conv => lhs; whnf) RVs.nil) (Sub.nil _) ?_
        exact ⟨rfl, rfl⟩
      · refine S.q rfl rfl (Qt.move (by conv => lhs; whnf)) ?_
        refine S.qg rfl rfl rfl (Qt.move (by conv => lhs; whnf)) ?_
        refine S.qg rfl rfl rfl (Qt.dT (Qt.gt (b := 4294967296) rfl rfl) (by omega)) ?_
        refine S.q rfl rfl (Qt.pick_f rfl (by conv => lhs; whnf)) ?_
        refine S.nil ?_
        refine S.if_t rfl ?_
        refine TC.seq ?_
        refine TC.region ?_
        refine S.q rfl rfl (Qt.move (by conv => lhs; whnf)) ?_
        refine S.opS rfl rfl (OpV.con0 Try.ent15 rfl (fun w hw => is_T 1 w) ?_)
        refine S.q rfl rfl (Qt.move (by conv => lhs; whnf)) ?_
        refine S.qg rfl rfl rfl (Qt.move (by conv => lhs; whnf)) ?_
        refine S.qg rfl rfl rfl (Qt.eqp_none Try.underlying38 rfl) ?_
        refine S.q rfl rfl (Qt.pick_t rfl (by conv => lhs; whnf)) ?_
        refine S.q rfl rfl (Qt.assign (by conv => lhs; whnf)) ?_
        refine S.nil ?_
        refine TC.ret ?_
        refine finQ.ret (RVs.tmp (by conv => lhs; whnf) RVs.nil) (Sub.nil _) ?_
        exact ⟨rfl, rfl⟩
end Go.Proofs.Ytaoicbjgkghnnaa
