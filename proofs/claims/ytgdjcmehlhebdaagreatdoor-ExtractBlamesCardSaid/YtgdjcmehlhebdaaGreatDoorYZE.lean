/- Walks: finds among pairs, pairs that are the same -/
import Derived.Test.YtgdjcmehlhebdaaGreatDoorY8
set_option maxHeartbeats 25600000
namespace Go.Proofs.YtgdjcmehlhebdaaGreatDoor
open _root_.Go.Proofs.Tryz
open Go.E
set_option maxRecDepth 4000
theorem zjP (A : OAd) (c : Nat) (ps : List Px) (hn : ps.length ≤ 16384) (w0 : World) (hR : Ro w0 [] (SlA A (ps.flatMap pxL))) (hP : PxRo w0 [] ps) (hl : PxLe ps) (hT : Tabs 3 1 w0 []) :
    Calls prog 110 #[.slice A ps.length c, .func (.func 50) #[] #[]] w0 (Post w0 [] fun v L => v = .int .i64 (plcI (ps.map pxT)) ∧ L = []) := by
  refine Calls.of (L := []) (n := 19) (rs := [.tmp 4]) func110 rfl rfl rfl (Nat.le_of_ble_eq_true rfl) (Sat.nil _) ?_
  refine TC.seq ?_
  refine TC.region ?_
  refine S.as ?_
  refine S.nil ?_
  refine TC.seq ?_
  refine TC.seq ?_
  refine TC.region ?_
  refine S.mv ?_
  refine S.r (Qt.len_slice uT rfl) ?_
  refine S.mv ?_
  refine S.nil ?_
  refine TC.block ?_
  refine TC.loop (γ := Nat) [9, 10, 5, 11, 12, 13, 14, 15, 16, 17, 4, 18, 8] (fun k => [(8, .int .i64 (k : Int))]) (fun _ => _) (fun k => k ≤ ps.length ∧ ∀ i, i < k → isF ((ps.map pxT).getD i pr0) = false) (fun k => ps.length - k) (0)
    ⟨Nat.zero_le _, fun i h => absurd h (Nat.not_lt_zero _)⟩ ⟨Out.refl _ _, (List.forall_mem_cons.2 ⟨rfl, (fun _ h => nomatch h)⟩)⟩ sr ?_
  rintro k u ⟨hk, hq⟩
  refine TC.seq ?_
  refine TC.region ?_
  refine S.dec rfl rfl (Qt.lt rfl rfl) (fun h9 => ?_) (fun h9 => ?_)
  · refine S.nil ?_
    refine TC.seq ?_
    refine S.if_t rfl ?_
    refine TC.skip ?_
    refine TC.seq ?_
    refine TC.block ?_
    refine TC.seq ?_
    refine TC.region ?_
    refine S.mv ?_
    refine S.as ?_
    refine S.nil ?_
    refine TC.seq ?_
    refine TC.region ?_
    refine S.mv ?_
    refine S.mv ?_
    refine S.mv ?_
    refine S.r (Qt.index uT cT rfl rfl ow (Has.ro hR) (by rw [zev]; omega)) ?_
    refine S.r (Qt.load rfl (Ld.slr (vs := pxL (ps.getD k px0)) (Has.ro hR) rT ce114 (Nat.zero_lt_succ _) (zlW ow rfl))) ?_
    by_cases hf : isF (pxT (ps.getD k px0)) = true
    · refine S.o (OpV.con0 J50 rfl (fun w hw => (by have h := Calls.ret (zju (ps.getD k px0).1.1 (ps.getD k px0).1.2.1 (ps.getD k px0).1.2.2 (ps.getD k px0).2.1 (ps.getD k px0).2.2.1 (ps.getD k px0).2.2.2 w (Rd.ro (hP _ (zcV ow)).1 w hw) (Rd.ro (hP _ (zcV ow)).2 w hw) (hl _ (zcV ow)).1 (hl _ (zcV ow)).2 (hT.at hw)); rw [show isF ((ps.getD k px0).1.2.2, (ps.getD k px0).2.2.2) = true from hf] at h; exact h : Calls prog 50 #[.agg (pxL (ps.getD k px0)).toArray] w (Ret w (.bool true)))) ?_)
      refine S.nil ?_
      refine S.if_t rfl ?_
      refine TC.seq ?_
      refine TC.region ?_
      refine S.mv ?_
      refine S.as ?_
      refine S.nil ?_
      refine TC.ret (fR ?_)
      have hp := ztc (l := (ps.map pxT)) (k := k) (by rw [List.length_map]; omega) hq (by rw [ziy ow]; exact hf)
      exact ⟨by rw [zrS (by rw [hp, List.length_map]; omega), hp]; rfl, rfl⟩
    · refine S.o (OpV.con0 J50 rfl (fun w hw => (by have h := Calls.ret (zju (ps.getD k px0).1.1 (ps.getD k px0).1.2.1 (ps.getD k px0).1.2.2 (ps.getD k px0).2.1 (ps.getD k px0).2.2.1 (ps.getD k px0).2.2.2 w (Rd.ro (hP _ (zcV ow)).1 w hw) (Rd.ro (hP _ (zcV ow)).2 w hw) (hl _ (zcV ow)).1 (hl _ (zcV ow)).2 (hT.at hw)); rw [show isF ((ps.getD k px0).1.2.2, (ps.getD k px0).2.2.2) = false from (Bool.eq_false_iff.2 hf)] at h; exact h : Calls prog 50 #[.agg (pxL (ps.getD k px0)).toArray] w (Ret w (.bool false)))) ?_)
      refine S.nil ?_
      refine S.if_f rfl ?_
      refine TC.skip ?_
      refine TC.region ?_
      refine S.r (Qt.add (b := 1) rfl rfl km) ?_
      refine S.mv ?_
      refine S.nil ?_
      refine ⟨k + 1, ?_, ?_, ⟨?_, (List.forall_mem_cons.2 ⟨rfl, (fun _ h => nomatch h)⟩)⟩, sr⟩
      · exact ⟨by show _ ≤ _; omega, fun i hi => (Nat.lt_or_ge i k).elim (hq i) (fun h => by (obtain rfl : i = k := by omega); rw [ziy ow]; exact Bool.eq_false_iff.2 hf)⟩
      · show _ < _; dsimp only; omega
      repeat (first | exact Out.refl _ _ | refine Out.put rfl ?_ | refine Out.puts rfl ?_ | refine Out.scr ?_ | refine Out.scr' rfl ?_)
  · refine S.nil ?_
    refine TC.seq ?_
    refine S.if_f rfl ?_
    refine TC.exit ?_
    refine TC.seq ?_
    refine TC.region ?_
    refine S.as ?_
    refine S.nil ?_
    refine TC.ret (fR ?_)
    have hp := zsk (l := (ps.map pxT)) (fun i hi => hq i (by rw [List.length_map] at hi; omega))
    exact ⟨by rw [zrT (by rw [hp]; exact Nat.lt_irrefl _)]; rfl, rfl⟩
theorem ztl (A : OAd) (c : Nat) (ps : List Px) (hn : ps.length ≤ 16384) (hp : plc (ps.map pxT) < ps.length) (w0 : World) (hR : Ro w0 [] (SlA A (ps.flatMap pxL))) (hP : PxRo w0 [] ps) (hl : PxLe ps) (hT : Tabs 3 1 w0 []) : Calls prog 110 #[.slice A ps.length c, .func (.func 50) #[] #[]] w0 (Ret w0 (.int .i64 ((plc (ps.map pxT) : Nat) : Int))) := by
 have h := Calls.ret (zjP A c ps hn w0 hR hP hl hT)
 rwa [zrS (by rw [List.length_map]; exact hp)] at h
theorem ztm (A : OAd) (c : Nat) (ps : List Px) (hn : ps.length ≤ 16384) (hp : ¬ plc (ps.map pxT) < ps.length) (w0 : World) (hR : Ro w0 [] (SlA A (ps.flatMap pxL))) (hP : PxRo w0 [] ps) (hl : PxLe ps) (hT : Tabs 3 1 w0 []) : Calls prog 110 #[.slice A ps.length c, .func (.func 50) #[] #[]] w0 (Ret w0 (.int .i64 (-1))) := by
 have h := Calls.ret (zjP A c ps hn w0 hR hP hl hT)
 rwa [zrT (by rw [List.length_map]; exact hp)] at h
theorem zm6 (A : OAd) (c : Nat) (ps : List Px) (hn : ps.length ≤ 16384) (hp : ¬ plc (ps.map pxT) < ps.length) (w0 : World) (hR : Ro w0 [] (SlA A (ps.flatMap pxL))) (hP : PxRo w0 [] ps) (hl : PxLe ps) (hT : Tabs 3 1 w0 []) :
  Calls prog 44 #[.slice A ps.length c] w0 (Post w0 [] fun v L => v = .tuple #[.agg #[.slice none 0 0, .slice none 0 0], .bool false] ∧ L = []) := by
 refine co 23 [.cell 2 114, .tmp 3] func44 ?_
 refine gw ?_
 intro b2
 refine gw ?_
 refine S.c0 J110 (fun w hw => ztm A c ps hn hp w (Rd.ro hR w hw) (fun p q => ⟨Rd.ro (hP p q).1 w hw, Rd.ro (hP p q).2 w hw⟩) hl (hT.at hw)) (gw ?_)
 refine S.r (Qt.dT (Qt.lti rfl rfl) (by decide)) (gw ?_)
 refine S.r (Qt.build (v := .agg #[.slice none 0 0, .slice none 0 0]) rfl (fun _ => by kernel_rfl)) ?_
 refine S.opN rfl (OpV.storeV0 (v := .agg #[.slice none 0 0, .slice none 0 0]) rfl rfl (by exact ce114) (by rfl) (by rfl) ?_)
 refine gw ?_
 refine TC.ret ?_
 refine finQ.ret (RVs.cell rfl (Ld.all hz0 rT (ce114)) rv) sn ?_
 exact ⟨rfl, rfl⟩
theorem zm7 (A : OAd) (c : Nat) (ps : List Px) (hn : ps.length ≤ 16384) (hp : plc (ps.map pxT) < ps.length) (w0 : World) (hR : Ro w0 [] (SlA A (ps.flatMap pxL))) (hP : PxRo w0 [] ps) (hl : PxLe ps) (hT : Tabs 3 1 w0 []) :
  Calls prog 44 #[.slice A ps.length c] w0 (Post w0 [] fun v L => ∃ (Oa : OAd) (da : Nat) (Ob : OAd) (db : Nat), v = .tuple #[.agg #[.slice Oa (ps.getD (plc (ps.map pxT)) px0).1.2.2.length da, .slice Ob (ps.getD (plc (ps.map pxT)) px0).2.2.2.length db], .bool true] ∧ L = [OwnA 5 1 Oa (ps.getD (plc (ps.map pxT)) px0).1.2.2.length da (zad (ps.getD (plc (ps.map pxT)) px0).1.2.2), OwnA 5 1 Ob (ps.getD (plc (ps.map pxT)) px0).2.2.2.length db (zad (ps.getD (plc (ps.map pxT)) px0).2.2.2)]) := by
 refine co 23 [.cell 2 114, .tmp 3] func44 ?_
 refine gw ?_
 intro b2
 refine gw ?_
 refine S.c0 J110 (fun w hw => ztl A c ps hn hp w (Rd.ro hR w hw) (fun p q => ⟨Rd.ro (hP p q).1 w hw, Rd.ro (hP p q).2 w hw⟩) hl (hT.at hw)) (gw ?_)
 refine S.r (Qt.dF (Qt.lt (b := 0) rfl rfl) (Nat.not_lt_zero _)) (gw ?_)
 refine dw ([13], [5, 11]) (gw ?_)
 refine D.qY 2 rfl (Qt.index uT cT rfl rfl ow (Has.ro hR) (by rw [zev]; omega)) ?_
 refine D.qY 3 rfl (Qt.fieldS uT rfl ce112 rfl (Has.ro hR) (by rw [zev]; omega)) ?_
 refine D.qY 4 rfl (Qt.load rfl (Ld.sl (v := .slice (ps.getD (plc (ps.map pxT)) px0).1.1 (ps.getD (plc (ps.map pxT)) px0).1.2.2.length (ps.getD (plc (ps.map pxT)) px0).1.2.1) (Has.ro hR) oT (zlW hp rfl 0 _ rfl))) (gw ?_)
 refine D.qY 8 rfl (Qt.index uT cT rfl rfl ow (Has.ro hR) (by rw [zev]; omega)) ?_
 refine D.qY 9 rfl (Qt.fieldS uT rfl ce112 rfl (Has.ro hR) (by rw [zev]; omega)) ?_
 refine D.qY 10 rfl (Qt.load rfl (Ld.sl (v := .slice (ps.getD (plc (ps.map pxT)) px0).2.1 (ps.getD (plc (ps.map pxT)) px0).2.2.2.length (ps.getD (plc (ps.map pxT)) px0).2.2.1) (Has.ro hR) oT (zlW hp rfl 1 _ rfl))) ?_
 refine D.nZ 5 rfl J111 (fun w hw => zgH (ps.getD (plc (ps.map pxT)) px0).1.1 (ps.getD (plc (ps.map pxT)) px0).1.2.1 (ps.getD (plc (ps.map pxT)) px0).1.2.2 w (Rd.ro (hP _ (zcV hp)).1 w hw) (hl _ (zcV hp)).1) ?_
 rintro v L' ⟨Oa, da, rfl, rfl⟩
 refine D.nZ 11 rfl J111 (fun w hw => zgH (ps.getD (plc (ps.map pxT)) px0).2.1 (ps.getD (plc (ps.map pxT)) px0).2.2.1 (ps.getD (plc (ps.map pxT)) px0).2.2.2 w (Rd.ro (hP _ (zcV hp)).2 w hw) (hl _ (zcV hp)).2) ?_
 rintro v L' ⟨Ob, db, rfl, rfl⟩
 refine D.qY 12 rfl (Qt.build2 (a := .slice Oa (ps.getD (plc (ps.map pxT)) px0).1.2.2.length da) (b := .slice Ob (ps.getD (plc (ps.map pxT)) px0).2.2.2.length db) rfl rfl (build66 _ _ _ _ _ _)) ?_
 refine D.oN 13 rfl (OpV.storeV2 (v := .agg #[.slice Oa (ps.getD (plc (ps.map pxT)) px0).1.2.2.length da, .slice Ob (ps.getD (plc (ps.map pxT)) px0).2.2.2.length db]) rfl rfl (by exact ce114) (by rfl) (by rfl) (sbk ?_))
 refine gw ?_
 refine D.fi ?_
 refine TC.ret ?_
 refine finQ.ret (RVs.cell rfl (Ld.all hz2 rT (ce114)) rv) (Sub.trans (sk (sk (sd sn0))) (Sub.trans (sk sr) (Sub.of_perm pm1))) ?_
 exact ⟨Oa, da, Ob, db, rfl, rfl⟩
theorem zcX (A : OAd) (c : Nat) (ps : List Px) (hn : ps.length ≤ 16384) (hp : plc (ps.map pxT) < ps.length) (w0 : World) (hR : Ro w0 [] (SlA A (ps.flatMap pxL))) (hP : PxRo w0 [] ps) (hl : PxLe ps) (hT : Tabs 3 1 w0 []) (hT2 : Tabs 2 0 w0 []) :
  Calls prog 16 #[.slice A ps.length c] w0 (Post w0 [] fun v L => v = .bool true ∧ L = []) := by
 refine co 29 [.tmp 2] func16 ?_
 have hi : isF (pxT (ps.getD (plc (ps.map pxT)) px0)) = true := by have h := ztd (l := (ps.map pxT)) (by rw [List.length_map]; exact hp); rwa [ziy hp] at h
 obtain ⟨hi1, hi2⟩ : (ps.getD (plc (ps.map pxT)) px0).1.2.2 ≠ (ps.getD (plc (ps.map pxT)) px0).2.2.2 ∧ shaH (ps.getD (plc (ps.map pxT)) px0).1.2.2 = shaH (ps.getD (plc (ps.map pxT)) px0).2.2.2 := zgE.1 hi
 refine gw ?_
 refine S.cn J44 (fun w hw => zm7 A c ps hn hp w (Rd.ro hR w hw) (fun p q => ⟨Rd.ro (hP p q).1 w hw, Rd.ro (hP p q).2 w hw⟩) hl (hT.at hw)) ?_
 rintro v L' ⟨Oa, da, Ob, db, rfl, rfl⟩
 refine gw ?_
 intro b3
 refine S.opN rfl (OpV.storeV0 (v := .agg #[.slice Oa (ps.getD (plc (ps.map pxT)) px0).1.2.2.length da, .slice Ob (ps.getD (plc (ps.map pxT)) px0).2.2.2.length db]) rfl rfl (by exact ce114) (by rfl) (by rfl) ?_)
 refine gw ?_
 refine dw ([], []) (gw ?_)
 refine D.gY 4 rfl rfl (Qt.bytesStrA (bs := (ps.getD (plc (ps.map pxT)) px0).1.2.2) uT uT uT rfl rfl (Has.own hz1)) (gw ?_)
 refine D.gY 7 rfl rfl (Qt.bytesStrA (bs := (ps.getD (plc (ps.map pxT)) px0).2.2.2) uT uT uT rfl rfl (Has.own hz2)) ?_
 refine D.gY 8 rfl rfl (Qt.dT (Qt.neStr (s := (ps.getD (plc (ps.map pxT)) px0).1.2.2) (t := (ps.getD (plc (ps.map pxT)) px0).2.2.2) rfl rfl) hi1) (gw ?_)
 refine D.cg0 13 rfl rfl J57 (fun w hw => Calls.ret (zeR Oa da (ps.getD (plc (ps.map pxT)) px0).1.2.2 w (Rd.own (e := 5) (sz := 1) (Rd.at 1 rfl) w hw) (hl _ (zcV hp)).1 (hT2.at hw))) (gw ?_)
 refine D.cg0 16 rfl rfl J57 (fun w hw => Calls.ret (zeR Ob db (ps.getD (plc (ps.map pxT)) px0).2.2.2 w (Rd.own (e := 5) (sz := 1) (Rd.at 2 rfl) w hw) (hl _ (zcV hp)).2 (hT2.at hw))) ?_
 refine D.gY 17 rfl rfl (Qt.dT (Qt.eqH (a := shaH (ps.getD (plc (ps.map pxT)) px0).1.2.2) (b := shaH (ps.getD (plc (ps.map pxT)) px0).2.2.2) guard49 uT uT cT rfl rfl) hi2) (gw ?_)
 refine D.fi ?_
 refine TC.ret (fR ?_)
 exact ⟨rfl, rfl⟩
end Go.Proofs.YtgdjcmehlhebdaaGreatDoor
