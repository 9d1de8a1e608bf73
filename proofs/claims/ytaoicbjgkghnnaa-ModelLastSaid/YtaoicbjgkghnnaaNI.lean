/-
  Walks: the law that what was written last is what is read. Printed by a program of ours.
-/
import Derived.Test.YtaoicbjgkghnnaaNF
import Derived.Test.YtaoicbjgkghnnaaNG
import Derived.Test.YtaoicbjgkghnnaaQ1
namespace Go.Proofs.Ytaoicbjgkghnnaa
open Go.E
set_option linter.unusedVariables false
set_option maxRecDepth 4000
theorem sub_last (b9 vb mp : Assn) : Sub [mp, vb, b9] [b9, vb, mp] := Sub.of_perm (List.reverse_perm [mp, vb, b9])
theorem read_hi (b bm n : Nat) (ms : Ms) (g x : Nat) (h : n ≤ x) (w0 : World) (hV : Ro w0 [] (Blk b 73 [.int .u64 (n : Int), .map (some bm)])) (hM : Ro w0 [] (MapA bm encU hv ms)) (hG : Ro w0 [] (Blk g 24 [.int .u64 (x : Int)])) :
    Calls Try.prog 24 #[.pointer (some ⟨b, 0, none⟩), .slice (some ⟨g, 0, none⟩) 1 1] w0 (Post w0 [] fun v L => ∃ O d, v = .tuple #[.slice O 0 d, errv 42 1] ∧ L = [OwnA 58 32 O 0 d (hcs [])]) := by
  have e := read_walk b bm n ms (some ⟨g, 0, none⟩) 1 [x] w0 hV hM hG.blk (Nat.le_refl 1) (by decide)
  rw [readM_hi h] at e
  exact e
theorem span_hi (b bm n : Nat) (ms : Ms) (x : Nat) (h : n ≤ x) (hn : n ≤ 18446744073709551615) (w0 : World) (hV : Ro w0 [] (Blk b 73 [.int .u64 (n : Int), .map (some bm)])) (hM : Ro w0 [] (MapA bm encU hv ms)) :
    Calls Try.prog 25 #[.pointer (some ⟨b, 0, none⟩), .int .u64 (x : Int), .int .i64 1] w0 (Post w0 [] fun v L => ∃ O d, v = .tuple #[.slice O 0 d, errv 42 1] ∧ L = [OwnA 58 32 O 0 d (hcs [])]) := by
  have e := span_walk b bm n ms x 1 w0 hV hM hn (by decide)
  rw [spanM_hi h] at e
  exact e
theorem read_lo (b bm n : Nat) (ms : Ms) (g x : Nat) (h : ¬ n ≤ x) (w0 : World) (hV : Ro w0 [] (Blk b 73 [.int .u64 (n : Int), .map (some bm)])) (hM : Ro w0 [] (MapA bm encU hv ms)) (hG : Ro w0 [] (Blk g 24 [.int .u64 (x : Int)])) :
    Calls Try.prog 24 #[.pointer (some ⟨b, 0, none⟩), .slice (some ⟨g, 0, none⟩) 1 1] w0 (Post w0 [] fun v L => ∃ O d, v = .tuple #[.slice O 1 d, .nilIface] ∧ L = [OwnA 58 32 O 1 d (hcs [getM ms x])]) := by
  have e := read_walk b bm n ms (some ⟨g, 0, none⟩) 1 [x] w0 hV hM hG.blk (Nat.le_refl 1) (by decide)
  rw [readM_lo h] at e
  exact e
theorem span_lo (b bm n : Nat) (ms : Ms) (x : Nat) (h : ¬ n ≤ x) (hn : n ≤ 18446744073709551615) (w0 : World) (hV : Ro w0 [] (Blk b 73 [.int .u64 (n : Int), .map (some bm)])) (hM : Ro w0 [] (MapA bm encU hv ms)) :
    Calls Try.prog 25 #[.pointer (some ⟨b, 0, none⟩), .int .u64 (x : Int), .int .i64 1] w0 (Post w0 [] fun v L => ∃ O d, v = .tuple #[.slice O 1 d, .nilIface] ∧ L = [OwnA 58 32 O 1 d (hcs [getM ms x])]) := by
  have e := span_walk b bm n ms x 1 w0 hV hM hn (by decide)
  rw [spanM_lo h] at e
  exact e
set_option maxHeartbeats 6400000 in
theorem modelLast_walk (n : Nat) (A : Option Addr) (c : Nat) (l : List ActL) (l5 : List Act5) (h5 : l5 = l.map ActL.flat) (x : Nat) (w0 : World) (hA : Ro w0 [] (SlA A (acs l5))) (hl : l5.length ≤ 9223372036854775807) (hok : ∀ a ∈ l, a.Ok w0) :
    Calls Try.prog 5 #[.int .u64 (n : Int), .slice A l5.length c, .int .u64 (x : Int)] w0 (Post w0 [] fun v L => v = .bool true ∧ L = []) := by
  refine Calls.of (L := []) (n := 142) (rs := [.tmp 6]) Try.func5 rfl rfl rfl (Nat.le_of_ble_eq_true rfl) (Sat.nil _) ?_
  refine TC.seq ?_
  refine TC.region ?_
  refine S.q rfl rfl (Qt.assign (by conv => lhs; whnf)) ?_
  refine S.nil ?_
  refine TC.seq ?_
  refine TC.seq ?_
  refine TC.region ?_
  refine S.opS rfl rfl (OpV.con0 Try.ent7 rfl (fun w hw => Calls.ret (alive_walk w)) ?_)
  refine S.q rfl rfl (Qt.not_t rfl) ?_
  refine S.nil ?_
  refine S.if_f rfl ?_
  refine TC.skip ?_
  refine TC.seq ?_
  refine TC.seq ?_
  refine TC.region ?_
  refine S.q rfl rfl (Qt.move (by conv => lhs; whnf)) ?_
  refine S.opS rfl rfl (OpV.con0 Try.ent13 rfl (fun w hw => Calls.ret (long_walk A c l5 w (Rd.ro hA w hw) hl)) ?_)
  generalize hlo : longB l5 = lo
  refine S.nil ?_
  refine TC.ifb rfl (fun b23 => ?_) (fun b23 => ?_)
  · refine TC.seq ?_
    refine TC.region ?_
    refine S.q rfl rfl (Qt.assign (by conv => lhs; whnf)) ?_
    refine S.nil ?_
    refine TC.ret ?_
    refine finQ.ret (RVs.tmp (by conv => lhs; whnf) RVs.nil) (Sub.nil _) ?_
    exact ⟨rfl, rfl⟩
  · refine TC.skip ?_
    refine TC.seq ?_
    refine TC.region ?_
    refine S.q rfl rfl (Qt.move (by conv => lhs; whnf)) ?_
    by_cases hn : 1 ≤ n ∧ n ≤ 4294967296
    · refine S.opS rfl rfl (OpV.con (Pre := []) (R := _) Try.ent14 rfl (List.Perm.refl _) (fun w hw => new_ok_walk n hn w) ?_)
      rintro v L' ⟨b, bm, rfl, rfl⟩
      refine S.q rfl rfl (Qt.move (by conv => lhs; whnf)) ?_
      refine S.q rfl rfl (Qt.extract rfl rfl) ?_
      refine S.q rfl rfl (Qt.extract rfl rfl) ?_
      refine S.q rfl rfl (Qt.assign (by conv => lhs; whnf)) ?_
      refine S.q rfl rfl (Qt.assign (by conv => lhs; whnf)) ?_
      refine S.nil ?_
      refine TC.seq ?_
      refine TC.seq ?_
      refine TC.region ?_
      refine S.q rfl rfl (Qt.move (by conv => lhs; whnf)) ?_
      refine S.q rfl rfl (Qt.nenil_nil Try.underlying30 rfl) ?_
      refine S.nil ?_
      refine S.if_f rfl ?_
      refine TC.skip ?_
      refine TC.seq ?_
      refine TC.region ?_
      refine S.q rfl rfl (Qt.build (v := hv zeroH) rfl (fun _ => by kernel_rfl)) ?_
      refine S.opS rfl rfl (OpV.alloc Try.zero58 (fun b9 => ?_))
      refine S.opN rfl (OpV.storeV0 rfl (by conv => lhs; whnf) (by exact Try.cells58) (by rfl) (by rfl) ?_)
      refine S.nil ?_
      refine TC.seq ?_
      refine TC.seq ?_
      refine TC.region ?_
      refine S.q rfl rfl (Qt.move (by conv => lhs; whnf)) ?_
      refine S.q rfl rfl (Qt.len_slice Try.underlying36 rfl) ?_
      refine S.q rfl rfl (Qt.move (by conv => lhs; whnf)) ?_
      refine S.nil ?_
      refine TC.block ?_
      have hll0 : l5.length = l.length := by rw [h5, List.length_map]
      have hl40 : l5.length ≤ 40 := longB_len (hlo.trans b23)
      refine TC.loop (γ := Nat × Nat × Ms × H32) [37, 38, 39, 11, 40, 41, 12, 43, 44, 45, 42, 46, 47, 13, 14, 48, 49, 50, 51, 52, 53, 54, 55, 56, 57, 58, 59, 60, 61, 62, 63, 64, 65, 66, 67, 6, 68, 69, 70, 71, 72, 73, 74, 75, 76, 77, 78, 79, 80, 81, 82, 83, 84, 85, 15, 16, 86, 87, 88, 89, 90, 91, 92, 93, 94, 95, 96, 97, 98, 99, 100, 101, 36] (fun g => [(36, .int .i64 ((g.1 : Nat) : Int))]) (fun g => [MapA bm encU hv g.2.2.1, Blk b 73 [.int .u64 (g.2.1 : Int), .map (some bm)], Blk b9 58 (hvl (g.2.2.2))]) (fun g => g.1 ≤ l5.length ∧ (1 ≤ g.2.1 ∧ g.2.1 ≤ 4294967296) ∧ (∃ ls, RelM g.2.2.1 ls) ∧ getM g.2.2.1 x = g.2.2.2 ∧ g.2.2.1.length ≤ 256 * g.1) (fun g => l5.length - g.1) ((0, n, [], zeroH))
        ⟨Nat.zero_le _, hn, ⟨_, relM_nil⟩, rfl, Nat.zero_le _⟩ ⟨Out.refl _ _, (List.forall_mem_cons.2 ⟨rfl, (fun _ h => nomatch h)⟩)⟩ (sub_last _ _ _) ?_
      rintro ⟨k, m, ms, la⟩ u ⟨hk, hmz, hrel, hla, hle⟩
      dsimp only at hk hmz hrel hla hle
      have hms : ms.length ≤ 10240 := by omega
      refine TC.seq ?_
      refine TC.region ?_
      refine S.dec rfl rfl (Qt.lt rfl rfl) (fun h37 => ?_) (fun h37 => ?_)
      · refine S.nil ?_
        refine TC.seq ?_
        refine S.if_t rfl ?_
        refine TC.skip ?_
        refine TC.seq ?_
        refine TC.block ?_
        refine TC.seq ?_
        refine TC.region ?_
        have hkl : k < l.length := by omega
        have ha0 := hok _ (getD_mem actL0 hkl)
        generalize hae : l.getD k actL0 = a at ha0
        have hcel := act_at hkl hae
        obtain ⟨ax, am, aq, hRa, hBa⟩ := ha0
        refine S.q rfl rfl (Qt.index Try.underlying36 Try.cells26 rfl rfl (by omega) (Has.ro hA) (by rw [acs_length]; omega)) ?_
        refine S.q rfl rfl (Qt.load rfl (Ld.slr (vs := [.int .i64 a.k, .slice a.A a.xs.length a.c, .slice a.B a.bs.length a.d, .int .u64 (a.f : Int), .int .i64 a.q]) (Has.ro hA) Try.row26 Try.cells26 (Nat.succ_pos _) (fun j v hj => by subst h5; exact hcel j v hj))) ?_
        refine S.opS rfl rfl (OpV.alloc Try.zero26 (fun b11 => ?_))
        refine S.opN rfl (OpV.storeV0 rfl (by conv => lhs; whnf) (by exact Try.cells26) (by rfl) (by rfl) ?_)
        refine S.nil ?_
        refine TC.seq ?_
        refine TC.region ?_
        refine S.q rfl rfl (Qt.move (by conv => lhs; whnf)) ?_
        refine S.opS rfl rfl (OpV.con (Pre := []) (R := _) Try.ent19 rfl (List.Perm.refl _) (fun w hw => copy_walk b bm m ms w (Rd.at 2 rfl w hw) (Rd.at 1 rfl w hw)) ?_)
        rintro v L' ⟨b2, bm2, rfl, rfl⟩
        refine S.q rfl rfl (Qt.assign (by conv => lhs; whnf)) ?_
        refine S.nil ?_
        refine TC.seq ?_
        refine TC.region ?_
        refine S.q rfl rfl (Qt.move (by conv => lhs; whnf)) ?_
        refine S.q rfl rfl (Qt.load rfl (Ld.all (vs := [.int .i64 a.k, .slice a.A a.xs.length a.c, .slice a.B a.bs.length a.d, .int .u64 (a.f : Int), .int .i64 a.q]) (Has.at 2 rfl) Try.row26 Try.cells26)) ?_
        refine S.opS rfl rfl (OpV.con (Pre := [MapA bm encU hv ms, Blk b 73 [.int .u64 (m : Int), .map (some bm)]]) (R := _) Try.ent16 rfl ((List.perm_middle (l₁ := [_, _, _])).trans (List.Perm.cons _ (List.perm_middle (l₁ := [_, _, _])))) (fun w hw => do_walk b bm m ms a.k a.A a.B a.c a.d a.xs a.bs a.f a.q w hw.sat.left (Ro.of_pre hw hRa) (Ro.of_pre hw hBa) ax am (by omega) (by omega) aq) ?_)
        rintro v L' ⟨O5, e5, rfl, rfl⟩
        rcases hD : doM m ms (uw a.k % 5) a.xs a.bs a.f a.q with ⟨r1, r2, r3, ms2⟩
        dsimp only
        obtain ⟨ls0, hrel0⟩ := hrel
        obtain ⟨hrel2, hle2, hz3⟩ := hrel0.doLen hmz hD
        refine S.q rfl rfl (Qt.move (by conv => lhs; whnf)) ?_
        refine S.q rfl rfl (Qt.extract rfl rfl) ?_
        refine S.q rfl rfl (Qt.extract rfl rfl) ?_
        refine S.q rfl rfl (Qt.assign (by conv => lhs; whnf)) ?_
        refine S.q rfl rfl (Qt.assign (by conv => lhs; whnf)) ?_
        refine S.nil ?_
        refine TC.seq ?_
        refine TC.seq ?_
        refine TC.region ?_
        refine S.q rfl rfl (Qt.move (by conv => lhs; whnf)) ?_
        by_cases h49 : r1 = 0
        · refine S.q rfl rfl (Qt.nenil_nil Try.underlying30 (by subst h49; rfl)) ?_
          refine S.q rfl rfl (Qt.move (by conv => lhs; whnf)) ?_
          refine S.qg rfl rfl rfl (Qt.field Try.underlying26 rfl Try.cells3 rfl) ?_
          refine S.qg rfl rfl rfl (Qt.load rfl (Ld.one (v := .int .i64 a.k) (Has.at 5 rfl) Try.one3 rfl)) ?_
          refine S.qg rfl rfl rfl (Qt.conv_wrap (k := a.k) Try.underlying3 Try.underlying46 rfl) ?_
          refine S.qg rfl rfl rfl (Qt.rem (b := 5) rfl rfl (by omega)) ?_
          refine S.decg rfl rfl rfl (Qt.eq (b := 2) rfl rfl) (fun h55 => ?_) (fun h55 => ?_)
          · refine S.q rfl rfl (Qt.pick_f rfl (by conv => lhs; whnf)) ?_
            refine S.q rfl rfl (Qt.move (by conv => lhs; whnf)) ?_
            refine S.pass rfl rfl ?_
            refine S.pass rfl rfl ?_
            refine S.pass rfl rfl ?_
            refine S.pass rfl rfl ?_
            refine S.pass rfl rfl ?_
            refine S.q rfl rfl (Qt.pick_t rfl (by conv => lhs; whnf)) ?_
            refine S.nil ?_
            refine S.if_t rfl ?_
            refine TC.seq ?_
            refine TC.seq ?_
            refine TC.region ?_
            refine S.q rfl rfl (Qt.move (by conv => lhs; whnf)) ?_
            refine S.q rfl rfl (Qt.move (by conv => lhs; whnf)) ?_
            obtain ⟨rfl, rfl⟩ := doM_same hD (.inr (.inl h55))
            refine S.opS rfl rfl (OpV.con0 Try.ent21 rfl (fun w hw => Calls.ret (same21_walk b bm m b2 bm2 ms (by omega) w (Rd.at 2 rfl w hw) (Rd.at 1 rfl w hw) (Rd.at 3 rfl w hw) (Rd.at 4 rfl w hw))) ?_)
            refine S.q rfl rfl (Qt.not_t rfl) ?_
            refine S.nil ?_
            refine S.if_f rfl ?_
            refine TC.skip ?_
            refine TC.exit ?_
            refine TC.region ?_
            refine S.q rfl rfl (Qt.add (b := 1) rfl rfl (by simp only [kmax]; omega)) ?_
            refine S.q rfl rfl (Qt.move (by conv => lhs; whnf)) ?_
            refine S.nil ?_
            refine ⟨(k + 1, m, ms, la), ?_, ?_, ⟨?_, (List.forall_mem_cons.2 ⟨rfl, (fun _ h => nomatch h)⟩)⟩, Sub.trans (Sub.keep _ (Sub.keep _ (Sub.keep _ (Sub.drop _ (Sub.drop _ (Sub.drop _ (Sub.drop _ (Sub.nil [])))))))) (Sub.trans (Sub.keep _ (Sub.trans (Sub.keep _ (Sub.trans (Sub.keep _ (Sub.refl _)) (Sub.of_perm (List.perm_middle (l₁ := [_, _, _, _]))))) (Sub.of_perm (List.perm_middle (l₁ := [_]))))) (Sub.of_perm (List.perm_middle (l₁ := [_]))))⟩
            · exact ⟨by show _ ≤ _; dsimp only; omega, hmz, ⟨_, hrel0⟩, hla, by show _ ≤ _; dsimp only; omega⟩
            · show _ < _; dsimp only; omega
            repeat (first | exact Out.refl _ _ | refine Out.put rfl ?_ | refine Out.puts rfl ?_ | refine Out.scr ?_ | refine Out.scr' rfl ?_)
          · refine S.q rfl rfl (Qt.pick_f rfl (by conv => lhs; whnf)) ?_
            refine S.q rfl rfl (Qt.move (by conv => lhs; whnf)) ?_
            refine S.qg rfl rfl rfl (Qt.field Try.underlying26 rfl Try.cells3 rfl) ?_
            refine S.qg rfl rfl rfl (Qt.load rfl (Ld.one (v := .int .i64 a.k) (Has.at 5 rfl) Try.one3 rfl)) ?_
            refine S.qg rfl rfl rfl (Qt.conv_wrap (k := a.k) Try.underlying3 Try.underlying46 rfl) ?_
            refine S.qg rfl rfl rfl (Qt.rem (b := 5) rfl rfl (by omega)) ?_
            refine S.decg rfl rfl rfl (Qt.eq (b := 3) rfl rfl) (fun h62 => ?_) (fun h62 => ?_)
            · refine S.q rfl rfl (Qt.pick_f rfl (by conv => lhs; whnf)) ?_
              refine S.nil ?_
              refine S.if_t rfl ?_
              refine TC.seq ?_
              refine TC.seq ?_
              refine TC.region ?_
              refine S.q rfl rfl (Qt.move (by conv => lhs; whnf)) ?_
              refine S.q rfl rfl (Qt.move (by conv => lhs; whnf)) ?_
              obtain ⟨rfl, rfl⟩ := doM_same hD (.inr (.inr h62))
              refine S.opS rfl rfl (OpV.con0 Try.ent21 rfl (fun w hw => Calls.ret (same21_walk b bm m b2 bm2 ms (by omega) w (Rd.at 2 rfl w hw) (Rd.at 1 rfl w hw) (Rd.at 3 rfl w hw) (Rd.at 4 rfl w hw))) ?_)
              refine S.q rfl rfl (Qt.not_t rfl) ?_
              refine S.nil ?_
              refine S.if_f rfl ?_
              refine TC.skip ?_
              refine TC.exit ?_
              refine TC.region ?_
              refine S.q rfl rfl (Qt.add (b := 1) rfl rfl (by simp only [kmax]; omega)) ?_
              refine S.q rfl rfl (Qt.move (by conv => lhs; whnf)) ?_
              refine S.nil ?_
              refine ⟨(k + 1, m, ms, la), ?_, ?_, ⟨?_, (List.forall_mem_cons.2 ⟨rfl, (fun _ h => nomatch h)⟩)⟩, Sub.trans (Sub.keep _ (Sub.keep _ (Sub.keep _ (Sub.drop _ (Sub.drop _ (Sub.drop _ (Sub.drop _ (Sub.nil [])))))))) (Sub.trans (Sub.keep _ (Sub.trans (Sub.keep _ (Sub.trans (Sub.keep _ (Sub.refl _)) (Sub.of_perm (List.perm_middle (l₁ := [_, _, _, _]))))) (Sub.of_perm (List.perm_middle (l₁ := [_]))))) (Sub.of_perm (List.perm_middle (l₁ := [_]))))⟩
              · exact ⟨by show _ ≤ _; dsimp only; omega, hmz, ⟨_, hrel0⟩, hla, by show _ ≤ _; dsimp only; omega⟩
              · show _ < _; dsimp only; omega
              repeat (first | exact Out.refl _ _ | refine Out.put rfl ?_ | refine Out.puts rfl ?_ | refine Out.scr ?_ | refine Out.scr' rfl ?_)
            · refine S.q rfl rfl (Qt.pick_f rfl (by conv => lhs; whnf)) ?_
              refine S.nil ?_
              refine S.if_f rfl ?_
              refine TC.skip ?_
              refine TC.seq ?_
              refine TC.seq ?_
              refine TC.region ?_
              refine S.q rfl rfl (Qt.field Try.underlying26 rfl Try.cells3 rfl) ?_
              refine S.q rfl rfl (Qt.load rfl (Ld.one (v := .int .i64 a.k) (Has.at 5 rfl) Try.one3 rfl)) ?_
              refine S.q rfl rfl (Qt.conv_wrap (k := a.k) Try.underlying3 Try.underlying46 rfl) ?_
              refine S.q rfl rfl (Qt.rem (b := 5) rfl rfl (by omega)) ?_
              refine S.dec rfl rfl (Qt.eq (b := 4) rfl rfl) (fun h72 => ?_) (fun h72 => ?_)
              · refine S.nil ?_
                refine S.if_t rfl ?_
                refine TC.seq ?_
                refine TC.seq ?_
                refine TC.region ?_
                refine S.q rfl rfl (Qt.field Try.underlying26 rfl Try.cells24 rfl) ?_
                refine S.q rfl rfl (Qt.load rfl (Ld.one (v := .int .u64 (a.f : Int)) (Has.at 5 rfl) Try.one24 rfl)) ?_
                refine S.q rfl rfl (Qt.move (by conv => lhs; whnf)) ?_
                refine S.dec rfl rfl (Qt.le rfl rfl) (fun h76 => ?_) (fun h76 => ?_)
                · refine S.nil ?_
                  refine S.if_t rfl ?_
                  refine TC.region ?_
                  refine S.q rfl rfl (Qt.build (v := hv zeroH) rfl (fun _ => by kernel_rfl)) ?_
                  refine S.opN rfl (OpV.storeV6 (v := hv (zeroH)) rfl rfl (hv_size Try.cells58) (hv_all _) (by rw [hv_len]; exact (hvl_length _).symm) ?_)
                  refine S.nil ?_
                  refine TC.exit ?_
                  refine TC.region ?_
                  refine S.q rfl rfl (Qt.add (b := 1) rfl rfl (by simp only [kmax]; omega)) ?_
                  refine S.q rfl rfl (Qt.move (by conv => lhs; whnf)) ?_
                  refine S.nil ?_
                  refine ⟨(k + 1, r3, ms2, zeroH), ?_, ?_, ⟨?_, (List.forall_mem_cons.2 ⟨rfl, (fun _ h => nomatch h)⟩)⟩, Sub.trans (Sub.keep _ (Sub.keep _ (Sub.keep _ (Sub.drop _ (Sub.drop _ (Sub.drop _ (Sub.drop _ (Sub.nil [])))))))) (Sub.trans (Sub.keep _ (Sub.trans (Sub.keep _ (Sub.trans (Sub.keep _ (Sub.refl _)) (Sub.of_perm (List.perm_middle (l₁ := [_, _, _, _]))))) (Sub.of_perm (List.perm_middle (l₁ := [_]))))) (Sub.of_perm (List.perm_middle (l₁ := [_]))))⟩
                  · exact ⟨by show _ ≤ _; dsimp only; omega, hz3, hrel2, by dsimp only; subst h49; rw [← doM_cut h72 hD, getM_keep, if_pos h76], by show _ ≤ _; dsimp only; omega⟩
                  · show _ < _; dsimp only; omega
                  repeat (first | exact Out.refl _ _ | refine Out.put rfl ?_ | refine Out.puts rfl ?_ | refine Out.scr ?_ | refine Out.scr' rfl ?_)
                · refine S.nil ?_
                  refine S.if_f rfl ?_
                  refine TC.skip ?_
                  refine TC.exit ?_
                  refine TC.region ?_
                  refine S.q rfl rfl (Qt.add (b := 1) rfl rfl (by simp only [kmax]; omega)) ?_
                  refine S.q rfl rfl (Qt.move (by conv => lhs; whnf)) ?_
                  refine S.nil ?_
                  refine ⟨(k + 1, r3, ms2, la), ?_, ?_, ⟨?_, (List.forall_mem_cons.2 ⟨rfl, (fun _ h => nomatch h)⟩)⟩, Sub.trans (Sub.keep _ (Sub.keep _ (Sub.keep _ (Sub.drop _ (Sub.drop _ (Sub.drop _ (Sub.drop _ (Sub.nil [])))))))) (Sub.trans (Sub.keep _ (Sub.trans (Sub.keep _ (Sub.trans (Sub.keep _ (Sub.refl _)) (Sub.of_perm (List.perm_middle (l₁ := [_, _, _, _]))))) (Sub.of_perm (List.perm_middle (l₁ := [_]))))) (Sub.of_perm (List.perm_middle (l₁ := [_]))))⟩
                  · exact ⟨by show _ ≤ _; dsimp only; omega, hz3, hrel2, by dsimp only; subst h49; rw [← doM_cut h72 hD, getM_keep, if_neg h76, hla], by show _ ≤ _; dsimp only; omega⟩
                  · show _ < _; dsimp only; omega
                  repeat (first | exact Out.refl _ _ | refine Out.put rfl ?_ | refine Out.puts rfl ?_ | refine Out.scr ?_ | refine Out.scr' rfl ?_)
              · refine S.nil ?_
                refine S.if_f rfl ?_
                refine TC.skip ?_
                refine TC.seq ?_
                refine TC.region ?_
                subst h49
                obtain ⟨hs1, hs2, hs3⟩ := doM_step (by omega) hD
                refine S.q rfl rfl (Qt.field Try.underlying26 rfl Try.cells22 rfl) ?_
                refine S.q rfl rfl (Qt.load rfl (Ld.one (v := .slice a.A a.xs.length a.c) (Has.at 5 rfl) Try.one22 rfl)) ?_
                refine S.q rfl rfl (Qt.len_slice Try.underlying22 rfl) ?_
                refine S.q rfl rfl (Qt.move (by conv => lhs; whnf)) ?_
                refine S.nil ?_
                refine TC.block ?_
                refine TC.loop (γ := Nat × H32) [82, 83, 84, 85, 15, 16, 86, 87, 88, 89, 90, 91, 92, 93, 94, 95, 96, 97, 98, 99, 100, 81] (fun g => [(81, .int .i64 ((g.1 : Nat) : Int))]) (fun g => [MapA bm encU hv ms2, Blk b 73 [.int .u64 (r3 : Int), .map (some bm)], Blk b9 58 (hvl (g.2)), Blk b11 26 [.int .i64 a.k, .slice a.A a.xs.length a.c, .slice a.B a.bs.length a.d, .int .u64 (a.f : Int), .int .i64 a.q]]) (fun g => g.1 ≤ a.xs.length ∧ getM (stepL (uw a.k % 5) ms a.xs a.bs g.1) x = g.2) (fun g => a.xs.length - g.1) ((0, la))
                  ⟨Nat.zero_le _, by dsimp only; rw [stepL_zero]; exact hla⟩ ⟨Out.refl _ _, (List.forall_mem_cons.2 ⟨rfl, (fun _ h => nomatch h)⟩)⟩ (Sub.trans (Sub.keep _ (Sub.keep _ (Sub.keep _ (Sub.keep _ (Sub.drop _ (Sub.drop _ (Sub.drop _ (Sub.nil [])))))))) (Sub.trans (Sub.keep _ (Sub.trans (Sub.keep _ (Sub.trans (Sub.keep _ (Sub.trans (Sub.keep _ (Sub.refl _)) (Sub.of_perm (List.perm_middle (l₁ := [_, _, _]))))) (Sub.of_perm (List.perm_middle (l₁ := [_, _, _, _]))))) (Sub.of_perm (List.perm_middle (l₁ := [_]))))) (Sub.of_perm (List.perm_middle (l₁ := [_]))))) ?_
                rintro ⟨j, lb⟩ u ⟨hj, hlb⟩
                dsimp only at hj hlb
                refine TC.seq ?_
                refine TC.region ?_
                refine S.dec rfl rfl (Qt.lt rfl rfl) (fun h82 => ?_) (fun h82 => ?_)
                · refine S.nil ?_
                  refine TC.seq ?_
                  refine S.if_t rfl ?_
                  refine TC.skip ?_
                  refine TC.seq ?_
                  refine TC.block ?_
                  refine TC.seq ?_
                  refine TC.region ?_
                  refine S.q rfl rfl (Qt.move (by conv => lhs; whnf)) ?_
                  refine S.q rfl rfl (Qt.index Try.underlying22 Try.cells24 rfl rfl (by omega) (Has.ro hRa) (by rw [u64s_len]; omega)) ?_
                  refine S.q rfl rfl (Qt.load rfl (Ld.sl (v := .int .u64 ((a.xs.getD j 0 : Nat) : Int)) (Has.ro hRa) Try.one24 (u64s_get (by omega) (Nat.mul_one _)))) ?_
                  refine S.q rfl rfl (Qt.assign (by conv => lhs; whnf)) ?_
                  refine S.q rfl rfl (Qt.assign (by conv => lhs; whnf)) ?_
                  refine S.nil ?_
                  refine TC.seq ?_
                  refine TC.seq ?_
                  refine TC.region ?_
                  refine S.q rfl rfl (Qt.move (by conv => lhs; whnf)) ?_
                  refine S.q rfl rfl (Qt.move (by conv => lhs; whnf)) ?_
                  refine S.dec rfl rfl (Qt.ne rfl rfl) (fun h88 => ?_) (fun h88 => ?_)
                  · refine S.nil ?_
                    refine S.if_t rfl ?_
                    refine TC.exit ?_
                    refine TC.region ?_
                    refine S.q rfl rfl (Qt.add (b := 1) rfl rfl (by simp only [kmax]; omega)) ?_
                    refine S.q rfl rfl (Qt.move (by conv => lhs; whnf)) ?_
                    refine S.nil ?_
                    refine ⟨(j + 1, lb), ?_, ?_, ⟨?_, (List.forall_mem_cons.2 ⟨rfl, (fun _ h => nomatch h)⟩)⟩, Sub.refl _⟩
                    · exact ⟨by show _ ≤ _; dsimp only; omega, by dsimp only; rw [stepL_other hrel0 h82 hs2 h88]; exact hlb⟩
                    · show _ < _; dsimp only; omega
                    repeat (first | exact Out.refl _ _ | refine Out.put rfl ?_ | refine Out.puts rfl ?_ | refine Out.scr ?_ | refine Out.scr' rfl ?_)
                  · refine S.nil ?_
                    refine S.if_f rfl ?_
                    refine TC.skip ?_
                    refine TC.seq ?_
                    refine TC.region ?_
                    refine S.q rfl rfl (Qt.build (v := hv zeroH) rfl (fun _ => by kernel_rfl)) ?_
                    refine S.opN rfl (OpV.storeV2 (v := hv (zeroH)) rfl rfl (hv_size Try.cells58) (hv_all _) (by rw [hv_len]; exact (hvl_length _).symm) ?_)
                    refine S.nil ?_
                    refine TC.seq ?_
                    refine TC.region ?_
                    refine S.q rfl rfl (Qt.field Try.underlying26 rfl Try.cells3 rfl) ?_
                    refine S.q rfl rfl (Qt.load rfl (Ld.one (v := .int .i64 a.k) (Has.at 3 rfl) Try.one3 rfl)) ?_
                    refine S.q rfl rfl (Qt.conv_wrap (k := a.k) Try.underlying3 Try.underlying46 rfl) ?_
                    refine S.q rfl rfl (Qt.rem (b := 5) rfl rfl (by omega)) ?_
                    refine S.dec rfl rfl (Qt.eq (b := 0) rfl rfl) (fun h94 => ?_) (fun h94 => ?_)
                    · refine S.nil ?_
                      refine S.if_t rfl ?_
                      refine TC.region ?_
                      refine S.q rfl rfl (Qt.field Try.underlying26 rfl Try.cells23 rfl) ?_
                      refine S.q rfl rfl (Qt.load rfl (Ld.one (v := .slice a.B a.bs.length a.d) (Has.at 3 rfl) Try.one23 rfl)) ?_
                      refine S.q rfl rfl (Qt.move (by conv => lhs; whnf)) ?_
                      refine S.q rfl rfl (Qt.index Try.underlying23 Try.cells58 rfl rfl (by have := hs2 h94; omega) (Has.ro hBa) (by rw [hcs_length]; have := hs2 h94; omega)) ?_
                      refine S.q rfl rfl (Qt.load rfl (Ld.slr (Has.ro hBa) Try.row58 (by rw [hvl_length]; exact Try.cells58) (by rw [hvl_length]; exact Nat.succ_pos _) (hcs_at (by have := hs2 h94; omega) rfl))) ?_
                      refine S.opN rfl (OpV.storeV2 (v := hv (a.bs.getD j zeroH)) rfl rfl (hv_size Try.cells58) (hv_all _) (by rw [hv_len]; exact (hvl_length _).symm) ?_)
                      refine S.nil ?_
                      refine TC.region ?_
                      refine S.q rfl rfl (Qt.add (b := 1) rfl rfl (by simp only [kmax]; omega)) ?_
                      refine S.q rfl rfl (Qt.move (by conv => lhs; whnf)) ?_
                      refine S.nil ?_
                      refine ⟨(j + 1, a.bs.getD j zeroH), ?_, ?_, ⟨?_, (List.forall_mem_cons.2 ⟨rfl, (fun _ h => nomatch h)⟩)⟩, Sub.refl _⟩
                      · exact ⟨by show _ ≤ _; dsimp only; omega, stepL_write h94 h82 (hs2 h94) (Decidable.not_not.1 h88)⟩
                      · show _ < _; dsimp only; omega
                      repeat (first | exact Out.refl _ _ | refine Out.put rfl ?_ | refine Out.puts rfl ?_ | refine Out.scr ?_ | refine Out.scr' rfl ?_)
                    · refine S.nil ?_
                      refine S.if_f rfl ?_
                      refine TC.skip ?_
                      refine TC.region ?_
                      refine S.q rfl rfl (Qt.add (b := 1) rfl rfl (by simp only [kmax]; omega)) ?_
                      refine S.q rfl rfl (Qt.move (by conv => lhs; whnf)) ?_
                      refine S.nil ?_
                      refine ⟨(j + 1, zeroH), ?_, ?_, ⟨?_, (List.forall_mem_cons.2 ⟨rfl, (fun _ h => nomatch h)⟩)⟩, Sub.refl _⟩
                      · exact ⟨by show _ ≤ _; dsimp only; omega, stepL_trim hrel0 h94 h82 (Decidable.not_not.1 h88)⟩
                      · show _ < _; dsimp only; omega
                      repeat (first | exact Out.refl _ _ | refine Out.put rfl ?_ | refine Out.puts rfl ?_ | refine Out.scr ?_ | refine Out.scr' rfl ?_)
                · refine S.nil ?_
                  refine TC.seq ?_
                  refine S.if_f rfl ?_
                  refine TC.exit ?_
                  refine TC.region ?_
                  refine S.q rfl rfl (Qt.add (b := 1) rfl rfl (by simp only [kmax]; omega)) ?_
                  refine S.q rfl rfl (Qt.move (by conv => lhs; whnf)) ?_
                  refine S.nil ?_
                  refine ⟨(k + 1, r3, ms2, lb), ?_, ?_, ⟨?_, (List.forall_mem_cons.2 ⟨rfl, (fun _ h => nomatch h)⟩)⟩, Sub.keep _ (Sub.keep _ (Sub.keep _ (Sub.drop _ (Sub.nil []))))⟩
                  · exact ⟨by show _ ≤ _; dsimp only; omega, hz3, hrel2, by dsimp only; rw [← hs3, ← hlb]; congr 2; omega, by show _ ≤ _; dsimp only; omega⟩
                  · show _ < _; dsimp only; omega
                  repeat (first | exact Out.refl _ _ | refine Out.put rfl ?_ | refine Out.puts rfl ?_ | refine Out.scr ?_ | refine Out.scr' rfl ?_)
        · refine S.q rfl rfl (Qt.nenil_iface Try.underlying30 (errv_pos h49)) ?_
          refine S.q rfl rfl (Qt.move (by conv => lhs; whnf)) ?_
          refine S.pass rfl rfl ?_
          refine S.pass rfl rfl ?_
          refine S.pass rfl rfl ?_
          refine S.pass rfl rfl ?_
          refine S.pass rfl rfl ?_
          refine S.q rfl rfl (Qt.pick_t rfl (by conv => lhs; whnf)) ?_
          refine S.q rfl rfl (Qt.move (by conv => lhs; whnf)) ?_
          refine S.pass rfl rfl ?_
          refine S.pass rfl rfl ?_
          refine S.pass rfl rfl ?_
          refine S.pass rfl rfl ?_
          refine S.pass rfl rfl ?_
          refine S.q rfl rfl (Qt.pick_t rfl (by conv => lhs; whnf)) ?_
          refine S.nil ?_
          refine S.if_t rfl ?_
          refine TC.seq ?_
          refine TC.seq ?_
          refine TC.region ?_
          refine S.q rfl rfl (Qt.move (by conv => lhs; whnf)) ?_
          refine S.q rfl rfl (Qt.move (by conv => lhs; whnf)) ?_
          obtain ⟨rfl, rfl⟩ := doM_same hD (.inl h49)
          refine S.opS rfl rfl (OpV.con0 Try.ent21 rfl (fun w hw => Calls.ret (same21_walk b bm m b2 bm2 ms (by omega) w (Rd.at 2 rfl w hw) (Rd.at 1 rfl w hw) (Rd.at 3 rfl w hw) (Rd.at 4 rfl w hw))) ?_)
          refine S.q rfl rfl (Qt.not_t rfl) ?_
          refine S.nil ?_
          refine S.if_f rfl ?_
          refine TC.skip ?_
          refine TC.exit ?_
          refine TC.region ?_
          refine S.q rfl rfl (Qt.add (b := 1) rfl rfl (by simp only [kmax]; omega)) ?_
          refine S.q rfl rfl (Qt.move (by conv => lhs; whnf)) ?_
          refine S.nil ?_
          refine ⟨(k + 1, m, ms, la), ?_, ?_, ⟨?_, (List.forall_mem_cons.2 ⟨rfl, (fun _ h => nomatch h)⟩)⟩, Sub.trans (Sub.keep _ (Sub.keep _ (Sub.keep _ (Sub.drop _ (Sub.drop _ (Sub.drop _ (Sub.drop _ (Sub.nil [])))))))) (Sub.trans (Sub.keep _ (Sub.trans (Sub.keep _ (Sub.trans (Sub.keep _ (Sub.refl _)) (Sub.of_perm (List.perm_middle (l₁ := [_, _, _, _]))))) (Sub.of_perm (List.perm_middle (l₁ := [_]))))) (Sub.of_perm (List.perm_middle (l₁ := [_]))))⟩
          · exact ⟨by show _ ≤ _; dsimp only; omega, hmz, ⟨_, hrel0⟩, hla, by show _ ≤ _; dsimp only; omega⟩
          · show _ < _; dsimp only; omega
          repeat (first | exact Out.refl _ _ | refine Out.put rfl ?_ | refine Out.puts rfl ?_ | refine Out.scr ?_ | refine Out.scr' rfl ?_)
      · refine S.nil ?_
        refine TC.seq ?_
        refine S.if_f rfl ?_
        refine TC.exit ?_
        refine TC.seq ?_
        refine TC.region ?_
        subst hla
        refine S.q rfl rfl (Qt.move (by conv => lhs; whnf)) ?_
        refine S.q rfl rfl (Qt.move (by conv => lhs; whnf)) ?_
        refine S.opS rfl rfl (OpV.slice1 (bytes := 8) (v := .int .u64 ((x : Nat) : Int)) Try.underlying22 Try.elem24 (by decide) rfl rfl (fun g105 => ?_))
        by_cases hx : m ≤ x
        · refine S.opS rfl rfl (OpV.con (Pre := []) (R := _) Try.ent24 rfl (List.Perm.refl _) (fun w hw => read_hi b bm m ms g105 x hx w (Rd.at 2 rfl w hw) (Rd.at 1 rfl w hw) (Rd.at 0 rfl w hw)) ?_)
          rintro v L' ⟨O7, d7, rfl, rfl⟩
          refine S.q rfl rfl (Qt.move (by conv => lhs; whnf)) ?_
          refine S.q rfl rfl (Qt.extract rfl rfl) ?_
          refine S.q rfl rfl (Qt.extract rfl rfl) ?_
          refine S.q rfl rfl (Qt.assign (by conv => lhs; whnf)) ?_
          refine S.q rfl rfl (Qt.assign (by conv => lhs; whnf)) ?_
          refine S.nil ?_
          refine TC.seq ?_
          refine TC.region ?_
          refine S.q rfl rfl (Qt.move (by conv => lhs; whnf)) ?_
          refine S.q rfl rfl (Qt.move (by conv => lhs; whnf)) ?_
          refine S.opS rfl rfl (OpV.con (Pre := []) (R := _) Try.ent25 rfl (List.Perm.refl _) (fun w hw => span_hi b bm m ms x hx (by omega) w (Rd.at 3 rfl w hw) (Rd.at 2 rfl w hw)) ?_)
          rintro v L' ⟨O8, d8, rfl, rfl⟩
          refine S.q rfl rfl (Qt.move (by conv => lhs; whnf)) ?_
          refine S.q rfl rfl (Qt.extract rfl rfl) ?_
          refine S.q rfl rfl (Qt.extract rfl rfl) ?_
          refine S.q rfl rfl (Qt.assign (by conv => lhs; whnf)) ?_
          refine S.q rfl rfl (Qt.assign (by conv => lhs; whnf)) ?_
          refine S.nil ?_
          refine TC.seq ?_
          refine TC.seq ?_
          refine TC.region ?_
          refine S.q rfl rfl (Qt.move (by conv => lhs; whnf)) ?_
          refine S.q rfl rfl (Qt.move (by conv => lhs; whnf)) ?_
          refine S.opS rfl rfl (OpV.con0 Try.ent26 rfl (fun w hw => Calls.ret (blocks_walk b bm m w (Rd.at 4 rfl w hw))) ?_)
          refine S.q rfl rfl (Qt.dT (Qt.ge rfl rfl) (by omega)) ?_
          refine S.nil ?_
          refine S.if_t rfl ?_
          refine TC.seq ?_
          refine TC.region ?_
          refine S.q rfl rfl (Qt.move (by conv => lhs; whnf)) ?_
          refine S.opS rfl rfl (OpV.con0 Try.ent15 rfl (fun w hw => is_T 1 w) ?_)
          refine S.q rfl rfl (Qt.move (by conv => lhs; whnf)) ?_
          refine S.qg rfl rfl rfl (Qt.move (by conv => lhs; whnf)) ?_
          refine S.opg rfl rfl rfl (OpV.con0 Try.ent15 rfl (fun w hw => is_T 1 w) ?_)
          refine S.q rfl rfl (Qt.pick_t rfl (by conv => lhs; whnf)) ?_
          refine S.q rfl rfl (Qt.assign (by conv => lhs; whnf)) ?_
          refine S.nil ?_
          refine TC.ret ?_
          refine finQ.ret (RVs.tmp (by conv => lhs; whnf) RVs.nil) (Sub.nil _) ?_
          exact ⟨rfl, rfl⟩
        · refine S.opS rfl rfl (OpV.con (Pre := []) (R := _) Try.ent24 rfl (List.Perm.refl _) (fun w hw => read_lo b bm m ms g105 x hx w (Rd.at 2 rfl w hw) (Rd.at 1 rfl w hw) (Rd.at 0 rfl w hw)) ?_)
          rintro v L' ⟨O7, d7, rfl, rfl⟩
          refine S.q rfl rfl (Qt.move (by conv => lhs; whnf)) ?_
          refine S.q rfl rfl (Qt.extract rfl rfl) ?_
          refine S.q rfl rfl (Qt.extract rfl rfl) ?_
          refine S.q rfl rfl (Qt.assign (by conv => lhs; whnf)) ?_
          refine S.q rfl rfl (Qt.assign (by conv => lhs; whnf)) ?_
          refine S.nil ?_
          refine TC.seq ?_
          refine TC.region ?_
          refine S.q rfl rfl (Qt.move (by conv => lhs; whnf)) ?_
          refine S.q rfl rfl (Qt.move (by conv => lhs; whnf)) ?_
          refine S.opS rfl rfl (OpV.con (Pre := []) (R := _) Try.ent25 rfl (List.Perm.refl _) (fun w hw => span_lo b bm m ms x hx (by omega) w (Rd.at 3 rfl w hw) (Rd.at 2 rfl w hw)) ?_)
          rintro v L' ⟨O8, d8, rfl, rfl⟩
          refine S.q rfl rfl (Qt.move (by conv => lhs; whnf)) ?_
          refine S.q rfl rfl (Qt.extract rfl rfl) ?_
          refine S.q rfl rfl (Qt.extract rfl rfl) ?_
          refine S.q rfl rfl (Qt.assign (by conv => lhs; whnf)) ?_
          refine S.q rfl rfl (Qt.assign (by conv => lhs; whnf)) ?_
          refine S.nil ?_
          refine TC.seq ?_
          refine TC.seq ?_
          refine TC.region ?_
          refine S.q rfl rfl (Qt.move (by conv => lhs; whnf)) ?_
          refine S.q rfl rfl (Qt.move (by conv => lhs; whnf)) ?_
          refine S.opS rfl rfl (OpV.con0 Try.ent26 rfl (fun w hw => Calls.ret (blocks_walk b bm m w (Rd.at 4 rfl w hw))) ?_)
          refine S.q rfl rfl (Qt.dF (Qt.ge rfl rfl) (by omega)) ?_
          refine S.nil ?_
          refine S.if_f rfl ?_
          refine TC.skip ?_
          refine TC.seq ?_
          refine TC.region ?_
          refine S.q rfl rfl (Qt.move (by conv => lhs; whnf)) ?_
          refine S.q rfl rfl (Qt.eqnil_nil Try.underlying30 rfl) ?_
          refine S.q rfl rfl (Qt.move (by conv => lhs; whnf)) ?_
          refine S.qg rfl rfl rfl (Qt.move (by conv => lhs; whnf)) ?_
          refine S.qg rfl rfl rfl (Qt.eqnil_nil Try.underlying30 rfl) ?_
          refine S.q rfl rfl (Qt.pick_t rfl (by conv => lhs; whnf)) ?_
          refine S.q rfl rfl (Qt.move (by conv => lhs; whnf)) ?_
          refine S.qg rfl rfl rfl (Qt.move (by conv => lhs; whnf)) ?_
          refine S.qg rfl rfl rfl (Qt.load rfl (Ld.all (vs := hvl (getM ms x)) (Has.at 5 rfl) Try.row58 (by rw [hvl_length]; exact Try.cells58))) ?_
          refine S.opg rfl rfl rfl (OpV.slice1 (bytes := 32) (v := hv (getM ms x)) Try.underlying23 Try.elem58 (by decide) rfl (by rw [vl_hv, hvl_length]) (fun g134 => ?_))
          refine S.opg rfl rfl rfl (OpV.con0 Try.ent18 rfl (fun w hw => eqBlocks_T O7 (some ⟨g134, 0, none⟩) d7 1 [getM ms x] w (rd_own hw 2 rfl) (by have h := (Rd.at 0 rfl w hw).blk; rw [vl_hv] at h; rw [hcs_cons, hcs_nil, List.append_nil]; exact h) (by show 1 ≤ _; decide)) ?_)
          refine S.q rfl rfl (Qt.pick_t rfl (by conv => lhs; whnf)) ?_
          refine S.q rfl rfl (Qt.move (by conv => lhs; whnf)) ?_
          refine S.qg rfl rfl rfl (Qt.move (by conv => lhs; whnf)) ?_
          refine S.qg rfl rfl rfl (Qt.move (by conv => lhs; whnf)) ?_
          refine S.opg rfl rfl rfl (OpV.con0 Try.ent18 rfl (fun w hw => eqBlocks_T O8 O7 d8 d7 [getM ms x] w (rd_own hw 1 rfl) (rd_own hw 2 rfl) (by show 1 ≤ _; decide)) ?_)
          refine S.q rfl rfl (Qt.pick_t rfl (by conv => lhs; whnf)) ?_
          refine S.q rfl rfl (Qt.assign (by conv => lhs; whnf)) ?_
          refine S.nil ?_
          refine TC.ret ?_
          refine finQ.ret (RVs.tmp (by conv => lhs; whnf) RVs.nil) (Sub.nil _) ?_
          exact ⟨rfl, rfl⟩
    · refine S.opS rfl rfl (OpV.con0 Try.ent14 rfl (fun w hw => Calls.ret (new_bad_walk n hn w)) ?_)
      refine S.q rfl rfl (Qt.move (by conv => lhs; whnf)) ?_
      refine S.q rfl rfl (Qt.extract rfl rfl) ?_
      refine S.q rfl rfl (Qt.extract rfl rfl) ?_
      refine S.q rfl rfl (Qt.assign (by conv => lhs; whnf)) ?_
      refine S.q rfl rfl (Qt.assign (by conv => lhs; whnf)) ?_
      refine S.nil ?_
      refine TC.seq ?_
      refine TC.seq ?_
      refine TC.region ?_
      refine S.q rfl rfl (Qt.move (by conv => lhs; whnf)) ?_
      refine S.q rfl rfl (Qt.nenil_iface Try.underlying30 rfl) ?_
      refine S.nil ?_
      refine S.if_t rfl ?_
      refine TC.seq ?_
      refine TC.region ?_
      refine S.q rfl rfl (Qt.move (by conv => lhs; whnf)) ?_
      refine S.q rfl rfl (Qt.eqp_none Try.underlying38 rfl) ?_
      refine S.q rfl rfl (Qt.assign (by conv => lhs; whnf)) ?_
      refine S.nil ?_
      refine TC.ret ?_
      refine finQ.ret (RVs.tmp (by conv => lhs; whnf) RVs.nil) (Sub.nil _) ?_
      exact ⟨rfl, rfl⟩
end Go.Proofs.Ytaoicbjgkghnnaa
