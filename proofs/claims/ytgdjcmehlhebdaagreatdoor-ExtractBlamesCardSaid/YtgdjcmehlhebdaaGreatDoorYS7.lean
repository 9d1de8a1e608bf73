/- Walks: the law of blames -/
import Derived.Test.YtgdjcmehlhebdaaGreatDoorYN2
set_option maxHeartbeats 25600000
namespace Go.Proofs.YtgdjcmehlhebdaaGreatDoor
open _root_.Go.Proofs.Tryz
open Go.E
set_option maxRecDepth 4000
theorem J42 : zae prog 42 := ⟨_, func42, by kernel_rfl, rfl⟩
theorem J43 : zae prog 43 := ⟨_, func43, by kernel_rfl, rfl⟩
theorem ztF (q : ReqA) (m : Nat) (hm : q.many = (m : Int)) (h1 : 1 ≤ m) (h2 : m ≤ 256) (hf : q.first + m ≤ 2 ^ 32) (xs : List Nat) (hx : xs = (List.range m).map (q.first + ·)) (w0 : World) : Calls prog 40 #[.int .u64 (q.first : Int), .int .i64 q.many] w0 (Post w0 [] fun v L => ∃ O d, v = .slice O xs.length d ∧ L = [OwnA 40 1 O xs.length d (u64s xs)]) := by
 have h := zfH q.first m h1 h2 hf w0
 have e : xs.length = m := by rw [hx, List.length_map, List.length_range]
 rw [e, hx, hm]; exact h
theorem zr3 (h : Nat) : ¬ idxOk h [] := fun k => by have := k.1; simp at this
theorem znC {C : Ctx} {L : List Assn} {w : World} (hw : St C.w0 C.M L w) {A : Assn} (h : Ro C.w0 C.M A) : Ro w [] A := Rd.ro h w hw
theorem _root_.Go.E.ReqA.Ok.go0 {C : Ctx} {L : List Assn} {w : World} {q : ReqA} (h : q.Ok C.w0) (hw : St C.w0 C.M L w) (hM : C.M = [] := by rfl) : q.Ok w := ⟨h.cap, h.low, h.lt, h.lo, h.hi, znC hw (hM ▸ h.ro)⟩
theorem _root_.Go.E.RepA.Ok.go0 {C : Ctx} {L : List Assn} {w : World} {p : RepA} (h : p.Ok C.w0) (hw : St C.w0 C.M L w) (hM : C.M = [] := by rfl) : p.Ok w := ⟨h.capi, h.capp, h.capq, znC hw (hM ▸ h.roi), znC hw (hM ▸ h.rop), znC hw (hM ▸ h.roq)⟩
theorem _root_.Go.E.OrdA.Ok.go0 {C : Ctx} {L : List Assn} {w : World} {x : OrdA} (h : x.Ok C.w0) (hw : St C.w0 C.M L w) (hM : C.M = [] := by rfl) : x.Ok w := ⟨h.cap, h.low, h.blk, znC hw (hM ▸ h.ro), znC hw (hM ▸ h.rs)⟩
theorem zqc {leaf : Nat → H32} {node : Nat × Nat → H32} {path : Nat → List H32} {n : Nat} {o : Order} {err : Int} {pa pb : List H32} : ∀ q ∈ zfk leaf node path n o err pa pb, q.1.length ≤ 70368744177664 ∧ q.2.length ≤ 70368744177664 := fun q hq => by
 unfold zfk at hq
 split at hq
 ·cases hq
 ·split at hq
  ·exact zeb (zf2 _ _ _ _) (zf2 _ _ _ _) q hq
  ·split at hq
   ·exact zeb (zl8 _ _ _) (zl8 _ _ _) q hq
   ·cases hq
set_option maxRecDepth 8000 in
theorem zqd (E : Nat → H32) (hEm : ∀ w, Tabs 3 1 w [] → Calls prog 55 #[] w (Ret w (.agg (hcs (zbd E)).toArray))) (hE0 : E 0 = shaH [0]) (hE : ∀ h, E (h + 1) = zbj (h + 1) (E h) (E h)) (n0 : Nat) (hn64 : n0 < 18446744073709551616) (OA : OAd) (oc : Nat) (os : List OrdA) (ho : os.length ≤ 2199023255488) (q : ReqA) (p : RepA) (x : OrdA) (hq1 : q.rq.all (·.oneCell') = true) (hp1 : p.rs.all (·.oneCell') = true) (w0 : World) (hO : Ro w0 [] (SlA OA (os.flatMap ordL))) (hos : ∀ o ∈ os, o.Ok w0) (hq : q.Ok w0) (hp : p.Ok w0) (hx : x.Ok w0) (hT : Tabs 3 1 w0 []) (hT2 : Tabs 2 0 w0 []) :
  Calls prog 7 #[.int .u64 (n0 : Int), .slice OA os.length oc, .agg (askL q p x).toArray] w0 (Post w0 [] fun v L => v = .bool true ∧ L = []) := by
 refine co 142 [.tmp 6] func7 ?_
 refine gw ?_
 intro b5
 refine gw ?_
 refine S.c0 J8 (fun w hw => Calls.ret (zk4 E hEm w (hT.at hw))) (gw ?_)
 refine S.r (Qt.load rfl (Ld.all (vs := askL q p x) hz0 rT (by rw [zcJ]; exact ce67))) ?_
 by_cases hlg : zdB os q p x
 ·refine S.c0 J20 (fun w hw => (by have h := Calls.ret (zfI OA oc os ho q p x w (Rd.ro hO w hw)); rw [decide_eq_true hlg] at h; exact h : Calls prog 20 #[.slice OA os.length oc, .agg (askL q p x).toArray] w (Ret w (.bool true)))) (gw ?_)
  refine TC.ret (fR ?_)
  exact ⟨rfl, rfl⟩
 ·refine S.c0 J20 (fun w hw => (by have h := Calls.ret (zfI OA oc os ho q p x w (Rd.ro hO w hw)); rw [decide_eq_false hlg] at h; exact h : Calls prog 20 #[.slice OA os.length oc, .agg (askL q p x).toArray] w (Ret w (.bool false)))) (gw ?_)
  refine S.decg rfl rfl rfl (Qt.lt (b := 1) rfl rfl) (fun h24 => gw ?_) (fun h24 => gw ?_)
  ·refine TC.ret (fR ?_)
   exact ⟨rfl, rfl⟩
  ·refine S.decg rfl rfl rfl (Qt.gt (b := 4294967296) rfl rfl) (fun h28 => gw ?_) (fun h28 => gw ?_)
   ·refine TC.ret (fR ?_)
    exact ⟨rfl, rfl⟩
   ·refine S.qg rfl rfl rfl (Qt.load rfl (Ld.one (v := .int .i64 p.err) hz0 oT (zbz q p x 2 _ p.k2))) ?_
    refine S.decg rfl rfl rfl (Qt.nei rfl rfl) (fun h34 => gw ?_) (fun h34 => ?_)
    ·refine TC.ret (fR ?_)
     exact ⟨rfl, rfl⟩
    ·have hon : okN n0 := ⟨by omega, by omega⟩
     have hb0 : ∀ o ∈ x :: os, ¬ bigO o := fun o h1 h2 => hlg (.inl ⟨o, h1, h2⟩)
     have hlg2 : ¬ (20 < os.length ∨ 30 < q.xs.length ∨ 30 < q.many ∨ 40 < p.its.length ∨ 60 < p.pa.length ∨ 300 < p.pb.length) := fun h => hlg (.inr h)
     have hbx := hb0 x (List.mem_cons_self ..)
     refine gw ?_
     unfold bigO at hbx
     have he : p.err = 0 := Decidable.not_not.1 h34
     refine gw ?_
     refine S.cn J21 (fun w hw => zhV E hEm n0 hon w (hT.at hw)) ?_
     rintro v L' ⟨qb, sm, tb, mb, rfl, rfl⟩
     refine gw ?_
     refine TC.loop (γ := Nat × Nat × (Nat × Nat) × Sm × Tm) [46, 47, 48, 10, 49, 50, 51, 52, 45] (fun g => [(45, .int .i64 ((g.1 : Nat) : Int))]) (fun g => [Blk qb 160 [.int .u64 (g.2.1 : Int), .map (some sm), .pointer (some ⟨g.2.2.1.1, 0, none⟩)], MapA sm encU sv g.2.2.2.1, Blk g.2.2.1.1 243 (zar E (hgt g.2.1) g.2.2.1.2), MapA g.2.2.1.2 zau hv g.2.2.2.2, Blk b5 67 (askL q p x)]) (fun g => g.1 ≤ os.length ∧ TruOk E g.2.1 g.2.2.2.1 g.2.2.2.2 (12 * g.1)) (fun g => os.length - g.1) ((0, n0, (tb, mb), [], []))
      ⟨Nat.zero_le _, TruOk.new hE hE0 hon⟩ ⟨Out.refl _ _, ag⟩ sr ?_
     rintro ⟨k, n, ⟨tb, mb⟩, Y, ms⟩ u ⟨hk, hok⟩
     dsimp only at hk hok
     refine gw ?_
     refine S.dec rfl rfl (Qt.lt rfl rfl) (fun h46 => gw ?_) (fun h46 => gw ?_)
     ·refine S.r (Qt.index uT cT rfl rfl ow (Has.ro hO) (by rw [ziC]; omega)) ?_
      refine S.r (Qt.load rfl (Ld.slr (vs := ordL (os.getD k ord0)) (Has.ro hO) rT ce58 (by rw [zcI]; decide) (zo8 ow rfl))) (gw ?_)
      intro b10
      refine S.opN rfl (OpV.storeV0 (v := .agg (ordL (os.getD k ord0)).toArray) rfl rfl (by exact ce58) (zf4 _) (by rfl) ?_)
      have hoo := hos (os.getD k ord0) (zbk ord0 ow)
      have hbo := hb0 (os.getD k ord0) (List.mem_cons_of_mem _ (zbk ord0 ow))
      refine gw ?_
      unfold bigO at hbo
      refine gw ?_
      refine S.r (Qt.load rfl (Ld.all (vs := ordL (os.getD k ord0)) hz0 rT ce58)) ?_
      refine S.o (OpV.con (Pre := [Blk qb 160 [.int .u64 (n : Int), .map (some sm), .pointer (some ⟨tb, 0, none⟩)], MapA sm encU sv Y, Blk tb 243 (zar E (hgt n) mb), MapA mb zau hv ms]) (R := _) J38 rfl (pm1.trans (pc (pm1.trans (pc (pm1.trans (pc pm1)))))) (fun w hw => zp5 E hEm hE hE0 (12 * k) ow qb n sm tb mb Y ms (os.getD k ord0).A (os.getD k ord0).c (os.getD k ord0).B (os.getD k ord0).d (os.getD k ord0).o ow ow hok w hw.sat.left hoo.low (Ro.of_pre hw hoo.ro) (Ro.of_pre hw hoo.rs) (hT.pre hw)) ?_)
      rintro v L' ⟨tb3, mb3, ms3, rfl, rfl, hok3⟩
      refine gw ?_
      refine ⟨(k + 1, doN (os.getD k ord0).o n, (tb3, mb3), doS (os.getD k ord0).o n Y, ms3), ?_, ?_, ⟨?_, ag⟩, Sub.trans (sk (sk (sk (sk (sk (sd sn0)))))) (sk (sk (sk (sk (Sub.trans (sk sr) (Sub.of_perm pm1))))))⟩
      ·exact ⟨by show _ ≤ _; dsimp only; omega, hok3.mono (by dsimp only; omega)⟩
      ·show _ < _; dsimp only; omega
      exact outs
     ·refine TC.exit (TC.seq (TC.region ?_))
      obtain rfl : k = os.length := by omega
      have hh := zb0 hok.on
      refine gw ?_
      refine S.c0 J27 (fun w hw => zfo qb n sm tb w (Rd.at 0 rfl w hw)) ?_
      refine S.c0 J39 (fun w hw => Calls.ret (zdM n hok.on w)) (gw ?_)
      refine S.r (Qt.load rfl (Ld.row (vs := q.rq) (Has.at 4 rfl) rT (by rw [q.len]; exact ce63) (zrV _ _ _))) (gw ?_)
      intro b12
      refine S.opN rfl (OpV.storeV0 (v := .agg q.rq.toArray) rfl rfl (by rw [zav, q.len]; exact ce63) (hq1) (by rw [zav, q.len]; rfl) ?_)
      refine S.nil ?_
      refine TC.cutseq (γ := Nat) [63, 64, 65, 66, 67, 68, 69, 70, 71, 72, 13, 73, 74, 75, 76, 77, 78, 79, 80, 81, 82, 83, 84, 85, 86, 87, 88, 89, 90, 91, 92, 93, 94, 95, 96, 97, 98, 99, 100, 101, 102, 103, 104, 105, 106, 107, 108, 109, 110, 6] (fun k0 => []) (fun k0 => [Blk qb 160 [.int .u64 (n : Int), .map (some sm), .pointer (some ⟨tb, 0, none⟩)], MapA sm encU sv Y, Blk tb 243 (zar E (hgt n) mb), MapA mb zau hv ms, Blk b5 67 (askL q p x)]) (fun k0 => True) ?_ ?_
      ·refine gw ?_
       refine S.r (Qt.load rfl (Ld.one (v := .int .i64 q.kind) hz0 oT (q.k1))) ?_
       refine S.dec rfl rfl (Qt.eqi rfl rfl) (fun h65 => gw ?_) (fun h65 => gw ?_)
       ·refine S.r (Qt.load rfl (Ld.one (v := .slice q.A q.xs.length q.c) hz0 oT (q.k2))) (gw ?_)
        refine S.r (Qt.load rfl (Ld.one (v := .int .i64 q.kind) hz0 oT (q.k1))) ?_
        refine S.r (Qt.dF (Qt.eqi rfl rfl) ow) (gw ?_)
        refine dw ([], [14, 26]) (gw ?_)
        by_cases hi : idxOk (hgt n) q.xs
        ·refine D.c0 2 rfl J41 (fun w hw => zb6 (hgt n) hh q.A q.c q.xs hi w hq.low (Rd.ro hq.ro w hw)) (gw ?_)
         refine D.cg0 5 rfl rfl J24 (fun w hw => ze8 E qb n sm tb mb ms hok.on w (Rd.at 1 rfl w hw) (Rd.at 3 rfl w hw) (Rd.at 4 rfl w hw)) (gw ?_)
         refine D.gY 8 rfl rfl (Qt.load rfl (Ld.all (vs := askL q p x) (Has.at 5 rfl) rT (by rw [zcJ]; exact ce67))) ?_
         by_cases hcp : zfK (getT E ms (hgt n, 0)) (hgt n) q.kind q.first q.xs p.its p.pa p.pb
         ·refine D.cg0 9 rfl rfl J42 (fun w hw => zkj E hEm hE0 (getT E ms (hgt n, 0)) (hgt n) hh q.A q.c q.xs hq.cap q p x ow hq.lt hcp w hq.low (Rd.ro hq.ro w hw) (hp.go0 hw) (hT.at hw)) (gw ?_)
          refine D.gY 17 rfl rfl (Qt.load rfl (Ld.one (v := .slice p.I p.its.length p.i) (Has.at 5 rfl) oT (zbz q p x 3 _ p.k3))) ?_
          refine D.ng (k := 14) sn rfl (by kernel_rfl) (by kernel_rfl) rfl rfl rfl (OpV.con (Pre := []) (R := _) J29 rfl pr (fun w hw => zcm qb n sm tb Y q.A q.c q.xs (by have := hi.2.1; omega) w (Rd.at 1 rfl w hw) (Rd.at 2 rfl w hw) (Rd.ro hq.ro w hw)) ?_)
          rintro v L' ⟨O7, d7, rfl, rfl⟩
          refine sbk ?_
          by_cases hal : zfE (q.xs.map (itS Y)) p.its
          ·refine D.cg0 18 rfl rfl J15 (fun w hw => (by have k := zjU O7 d7 (q.xs.map (itS Y)) (by rw [List.length_map]; have := hi.2.1; omega) p.I p.i p.its hal w (Rd.own (Rd.at 0 rfl) w hw) (Rd.ro hp.roi w hw); rw [List.length_map] at k; exact k : Calls prog 15 #[.slice O7 q.xs.length d7, .slice p.I p.its.length p.i] w (Ret w (.bool true)))) (gw ?_)
           refine D.ps 26 rfl rfl (gw ?_)
           refine D.fi (gw ?_)
           refine ⟨0, ?_, ⟨?_, (fun _ h => nomatch h)⟩, Sub.trans (sk (sk (sk (sk (sk (sd (sd sn0))))))) (Sub.trans (sk (Sub.trans (sk (Sub.trans (sk (Sub.trans (sk (Sub.trans (sk sr) (Sub.of_perm pm2))) (Sub.of_perm pm2))) (Sub.of_perm pm2))) (Sub.of_perm pm2))) (Sub.of_perm pm2))⟩
           ·trivial
           exact outs
          ·refine D.cg0 18 rfl rfl J15 (fun w hw => (by have k := zjV O7 d7 (q.xs.map (itS Y)) (by rw [List.length_map]; have := hi.2.1; omega) p.I p.i p.its hal w (Rd.own (Rd.at 0 rfl) w hw) (Rd.ro hp.roi w hw); rw [List.length_map] at k; exact k : Calls prog 15 #[.slice O7 q.xs.length d7, .slice p.I p.its.length p.i] w (Ret w (.bool false)))) (gw ?_)
           refine D.gY 23 rfl rfl (Qt.load rfl (Ld.all (vs := q.rq) hz1 rT (by rw [q.len]; exact ce63))) (gw ?_)
           refine D.gY 25 rfl rfl (Qt.load rfl (Ld.row (vs := p.rs) (Has.at 6 rfl) rT (by rw [p.len]; exact ce65) (zbz _ _ _))) ?_
           refine D.ng (k := 26) sn rfl (by kernel_rfl) (by kernel_rfl) rfl rfl rfl (OpV.con (Pre := []) (R := _) J32 rfl pr (fun w hw => zp9 (zkg E qb n sm tb mb Y ms hok.on q p h65 hi hcp.1 he w (hq.go0 hw) (hp.go0 hw) (Rd.at 2 rfl w hw) (Rd.at 4 rfl w hw) (Rd.at 5 rfl w hw) (Rd.at 3 rfl w hw) (hT.at hw))) ?_)
           rintro v L' ⟨O4, d4, pp, Ls, rfl, rfl, e1, l1x, m1⟩
           refine sbk ?_
           refine D.cg0 27 rfl rfl J16 (fun w hw => Calls.ret (zcX O4 d4 pp l1x (by have k := zsN hok hi h65 hcp hal; rw [← e1, List.length_map] at k; exact k) w (Rd.own (Rd.at 0 rfl) w hw) (PxRo.many (Rd.at 1 rfl) m1 hw) (PxLe.of e1 (fun p hp => (List.mem_append.1 hp).elim (zeb (zf2 _ _ _ _) (zf2 _ _ _ _) p) (zeb (zeZ _ _) (zeZ _ _) p))) (hT.at hw) (hT2.at hw))) (gw ?_)
           refine D.fi (gw ?_)
           refine ⟨0, ?_, ⟨?_, (fun _ h => nomatch h)⟩, Sub.trans (sk (sk (sk (sk (sk (sd (sd (sd (sd sn0))))))))) (Sub.trans (sk (Sub.trans (sk (Sub.trans (sk (Sub.trans (sk (Sub.trans (sk sr) (Sub.of_perm pm4))) (Sub.of_perm pm4))) (Sub.of_perm pm4))) (Sub.of_perm pm4))) (Sub.of_perm pm4))⟩
           ·trivial
           exact outs
         ·refine D.cg0 9 rfl rfl J42 (fun w hw => zkk E hEm hE0 (getT E ms (hgt n, 0)) (hgt n) hh q.A q.c q.xs hq.cap q p x ow hq.lt hcp w hq.low (Rd.ro hq.ro w hw) (hp.go0 hw) (hT.at hw)) (gw ?_)
          refine D.ps 14 rfl rfl (gw ?_)
          refine D.ps 26 rfl rfl (gw ?_)
          refine D.fi (gw ?_)
          refine ⟨0, ?_, ⟨?_, (fun _ h => nomatch h)⟩, Sub.trans (sk (sk (sk (sk (sk (sd sn0)))))) (Sub.trans (sk (Sub.trans (sk (Sub.trans (sk (Sub.trans (sk (Sub.trans (sk sr) (Sub.of_perm pm1))) (Sub.of_perm pm1))) (Sub.of_perm pm1))) (Sub.of_perm pm1))) (Sub.of_perm pm1))⟩
          ·trivial
          exact outs
        ·refine D.c0 2 rfl J41 (fun w hw => zck (hgt n) hh q.A q.c q.xs hi w hq.low (Rd.ro hq.ro w hw)) (gw ?_)
         refine D.ps 14 rfl rfl (gw ?_)
         refine D.ps 26 rfl rfl (gw ?_)
         refine D.fi (gw ?_)
         refine ⟨0, ?_, ⟨?_, (fun _ h => nomatch h)⟩, Sub.trans (sk (sk (sk (sk (sk (sd sn0)))))) (Sub.trans (sk (Sub.trans (sk (Sub.trans (sk (Sub.trans (sk (Sub.trans (sk sr) (Sub.of_perm pm1))) (Sub.of_perm pm1))) (Sub.of_perm pm1))) (Sub.of_perm pm1))) (Sub.of_perm pm1))⟩
         ·trivial
         exact outs
       ·refine S.qg rfl rfl rfl (Qt.load rfl (Ld.one (v := .int .i64 q.kind) hz0 oT (q.k1))) ?_
        refine S.decg rfl rfl rfl (Qt.eqi rfl rfl) (fun h69 => gw ?_) (fun h69 => gw ?_)
        ·refine S.r (Qt.load rfl (Ld.one (v := .slice q.A q.xs.length q.c) hz0 oT (q.k2))) (gw ?_)
         refine S.r (Qt.load rfl (Ld.one (v := .int .i64 q.kind) hz0 oT (q.k1))) ?_
         refine S.r (Qt.dT (Qt.eqi rfl rfl) (h69)) (gw ?_)
         refine S.r (Qt.load rfl (Ld.one (v := .int .u64 (q.first : Int)) hz0 oT (q.k3))) (gw ?_)
         refine S.r (Qt.load rfl (Ld.one (v := .int .i64 q.many) hz0 oT (q.k4))) ?_
         by_cases hmm : q.many < 1 ∨ 256 < q.many
         ·refine S.c0 J40 (fun w hw => Calls.ret (ziJ q.first q.many hmm w)) (gw ?_)
          refine dw ([], [14, 26]) (gw ?_)
          refine D.c0 2 rfl J41 (fun w hw => zck (hgt n) hh none 0 [] (zr3 _) w (fun y hy => by cases hy) (zgN w)) (gw ?_)
          refine D.ps 14 rfl rfl (gw ?_)
          refine D.ps 26 rfl rfl (gw ?_)
          refine D.fi (gw ?_)
          refine ⟨0, ?_, ⟨?_, (fun _ h => nomatch h)⟩, Sub.trans (sk (sk (sk (sk (sk (sd sn0)))))) (Sub.trans (sk (Sub.trans (sk (Sub.trans (sk (Sub.trans (sk (Sub.trans (sk sr) (Sub.of_perm pm1))) (Sub.of_perm pm1))) (Sub.of_perm pm1))) (Sub.of_perm pm1))) (Sub.of_perm pm1))⟩
          ·trivial
          exact outs
         ·obtain ⟨m, hm⟩ : ∃ m : Nat, q.many = (m : Int) := ⟨q.many.toNat, by omega⟩
          obtain ⟨xs, hxs⟩ : ∃ xs : List Nat, xs = (List.range m).map (q.first + ·) := ⟨_, rfl⟩
          by_cases hf32 : q.first + m ≤ 2 ^ 32
          ·have hlowx : ∀ y ∈ xs, y < 18446744073709551616 := fun y hy => by
            rw [hxs] at hy
            obtain ⟨j, hj, rfl⟩ := List.mem_map.1 hy
            have := List.mem_range.1 hj
            omega
           have hlowx : ∀ y ∈ xs, y < 18446744073709551616 := fun y hy => by
            rw [hxs] at hy
            obtain ⟨j, hj, rfl⟩ := List.mem_map.1 hy
            have := List.mem_range.1 hj
            omega
           refine S.cn J40 (fun w hw => ztF q m hm ow ow hf32 xs hxs w) ?_
           rintro v L' ⟨X, x2, rfl, rfl⟩
           refine gw ?_
           refine dw ([], [14, 26]) (gw ?_)
           by_cases hi : idxOk (hgt n) xs
           ·refine D.c0 2 rfl J41 (fun w hw => zb6 (hgt n) hh X x2 xs hi w hlowx (Rd.own (Rd.at 0 rfl) w hw)) (gw ?_)
            refine D.cg0 5 rfl rfl J24 (fun w hw => ze8 E qb n sm tb mb ms hok.on w (Rd.at 2 rfl w hw) (Rd.at 4 rfl w hw) (Rd.at 5 rfl w hw)) (gw ?_)
            refine D.gY 8 rfl rfl (Qt.load rfl (Ld.all (vs := askL q p x) (Has.at 6 rfl) rT (by rw [zcJ]; exact ce67))) ?_
            by_cases hcp : zfK (getT E ms (hgt n, 0)) (hgt n) q.kind q.first xs p.its p.pa p.pb
            ·refine D.cg0 9 rfl rfl J42 (fun w hw => zkj E hEm hE0 (getT E ms (hgt n, 0)) (hgt n) hh X x2 xs ((zaL (hw.ok (List.mem_of_getElem? (i := 0) rfl))).1) q p x ow hq.lt hcp w hlowx (Rd.own (Rd.at 0 rfl) w hw) (hp.go0 hw) (hT.at hw)) (gw ?_)
             refine D.gY 17 rfl rfl (Qt.load rfl (Ld.one (v := .slice p.I p.its.length p.i) (Has.at 6 rfl) oT (zbz q p x 3 _ p.k3))) ?_
             refine D.ng (k := 14) sn rfl (by kernel_rfl) (by kernel_rfl) rfl rfl rfl (OpV.con (Pre := []) (R := _) J29 rfl pr (fun w hw => zcm qb n sm tb Y X x2 xs (by have := hi.2.1; omega) w (Rd.at 2 rfl w hw) (Rd.at 3 rfl w hw) (Rd.own (Rd.at 0 rfl) w hw)) ?_)
             rintro v L' ⟨O7, d7, rfl, rfl⟩
             refine sbk ?_
             by_cases hal : zfE (xs.map (itS Y)) p.its
             ·refine D.cg0 18 rfl rfl J15 (fun w hw => (by have k := zjU O7 d7 (xs.map (itS Y)) (by rw [List.length_map]; have := hi.2.1; omega) p.I p.i p.its hal w (Rd.own (Rd.at 0 rfl) w hw) (Rd.ro hp.roi w hw); rw [List.length_map] at k; exact k : Calls prog 15 #[.slice O7 xs.length d7, .slice p.I p.its.length p.i] w (Ret w (.bool true)))) (gw ?_)
              refine D.ps 26 rfl rfl (gw ?_)
              refine D.fi (gw ?_)
              refine ⟨0, ?_, ⟨?_, (fun _ h => nomatch h)⟩, Sub.trans (sk (sk (sk (sk (sk (sd (sd (sd sn0)))))))) (Sub.trans (sk (Sub.trans (sk (Sub.trans (sk (Sub.trans (sk (Sub.trans (sk sr) (Sub.of_perm pm3))) (Sub.of_perm pm3))) (Sub.of_perm pm3))) (Sub.of_perm pm3))) (Sub.of_perm pm3))⟩
              ·trivial
              exact outs
             ·refine D.cg0 18 rfl rfl J15 (fun w hw => (by have k := zjV O7 d7 (xs.map (itS Y)) (by rw [List.length_map]; have := hi.2.1; omega) p.I p.i p.its hal w (Rd.own (Rd.at 0 rfl) w hw) (Rd.ro hp.roi w hw); rw [List.length_map] at k; exact k : Calls prog 15 #[.slice O7 xs.length d7, .slice p.I p.its.length p.i] w (Ret w (.bool false)))) (gw ?_)
              refine D.gY 23 rfl rfl (Qt.load rfl (Ld.all (vs := q.rq) hz2 rT (by rw [q.len]; exact ce63))) (gw ?_)
              refine D.gY 25 rfl rfl (Qt.load rfl (Ld.row (vs := p.rs) (Has.at 7 rfl) rT (by rw [p.len]; exact ce65) (zbz _ _ _))) ?_
              refine D.ng (k := 26) sn rfl (by kernel_rfl) (by kernel_rfl) rfl rfl rfl (OpV.con (Pre := []) (R := _) J32 rfl pr (fun w hw => zp9 (zkh E qb n sm tb mb Y ms hok.on q p h69 m hm ow ow (by have := hi.low (q.first + (m - 1)) (by rw [hxs]; exact List.mem_map.2 ⟨m - 1, List.mem_range.2 ow, rfl⟩); omega) hf32 xs hxs hlowx hi hcp.1 he w (hq.go0 hw) (hp.go0 hw) (Rd.at 3 rfl w hw) (Rd.at 5 rfl w hw) (Rd.at 6 rfl w hw) (Rd.at 4 rfl w hw) (hT.at hw))) ?_)
              rintro v L' ⟨O4, d4, pp, Ls, rfl, rfl, e1, l1x, m1⟩
              refine sbk ?_
              refine D.cg0 27 rfl rfl J16 (fun w hw => Calls.ret (zcX O4 d4 pp l1x (by have k := zsO hok hi ow hxs ow ow (by have := hi.low (q.first + (m - 1)) (by rw [hxs]; exact List.mem_map.2 ⟨m - 1, List.mem_range.2 ow, rfl⟩); omega) hcp hal rfl; rw [← e1, List.length_map] at k; exact k) w (Rd.own (Rd.at 0 rfl) w hw) (PxRo.many (Rd.at 1 rfl) m1 hw) (PxLe.of e1 (fun p hp => (List.mem_append.1 hp).elim (zrm p) (zeb (zeZ _ _) (zeZ _ _) p))) (hT.at hw) (hT2.at hw))) (gw ?_)
              refine D.fi (gw ?_)
              refine ⟨0, ?_, ⟨?_, (fun _ h => nomatch h)⟩, Sub.trans (sk (sk (sk (sk (sk (sd (sd (sd (sd (sd sn0)))))))))) (Sub.trans (sk (Sub.trans (sk (Sub.trans (sk (Sub.trans (sk (Sub.trans (sk sr) (Sub.of_perm pm5))) (Sub.of_perm pm5))) (Sub.of_perm pm5))) (Sub.of_perm pm5))) (Sub.of_perm pm5))⟩
              ·trivial
              exact outs
            ·refine D.cg0 9 rfl rfl J42 (fun w hw => zkk E hEm hE0 (getT E ms (hgt n, 0)) (hgt n) hh X x2 xs ((zaL (hw.ok (List.mem_of_getElem? (i := 0) rfl))).1) q p x ow hq.lt hcp w hlowx (Rd.own (Rd.at 0 rfl) w hw) (hp.go0 hw) (hT.at hw)) (gw ?_)
             refine D.ps 14 rfl rfl (gw ?_)
             refine D.ps 26 rfl rfl (gw ?_)
             refine D.fi (gw ?_)
             refine ⟨0, ?_, ⟨?_, (fun _ h => nomatch h)⟩, Sub.trans (sk (sk (sk (sk (sk (sd (sd sn0))))))) (Sub.trans (sk (Sub.trans (sk (Sub.trans (sk (Sub.trans (sk (Sub.trans (sk sr) (Sub.of_perm pm2))) (Sub.of_perm pm2))) (Sub.of_perm pm2))) (Sub.of_perm pm2))) (Sub.of_perm pm2))⟩
             ·trivial
             exact outs
           ·refine D.c0 2 rfl J41 (fun w hw => zck (hgt n) hh X x2 xs hi w hlowx (Rd.own (Rd.at 0 rfl) w hw)) (gw ?_)
            refine D.ps 14 rfl rfl (gw ?_)
            refine D.ps 26 rfl rfl (gw ?_)
            refine D.fi (gw ?_)
            refine ⟨0, ?_, ⟨?_, (fun _ h => nomatch h)⟩, Sub.trans (sk (sk (sk (sk (sk (sd (sd sn0))))))) (Sub.trans (sk (Sub.trans (sk (Sub.trans (sk (Sub.trans (sk (Sub.trans (sk sr) (Sub.of_perm pm2))) (Sub.of_perm pm2))) (Sub.of_perm pm2))) (Sub.of_perm pm2))) (Sub.of_perm pm2))⟩
            ·trivial
            exact outs
          ·refine S.c0 J40 (fun w hw => (by have k := Calls.ret (ziI q.first m hq.lt ow ow hf32 w); rw [← hm] at k; exact k : Calls prog 40 #[.int .u64 (q.first : Int), .int .i64 q.many] w (Ret w (.slice none 0 0)))) (gw ?_)
           refine dw ([], [14, 26]) (gw ?_)
           refine D.c0 2 rfl J41 (fun w hw => zck (hgt n) hh none 0 [] (zr3 _) w (fun y hy => by cases hy) (zgN w)) (gw ?_)
           refine D.ps 14 rfl rfl (gw ?_)
           refine D.ps 26 rfl rfl (gw ?_)
           refine D.fi (gw ?_)
           refine ⟨0, ?_, ⟨?_, (fun _ h => nomatch h)⟩, Sub.trans (sk (sk (sk (sk (sk (sd sn0)))))) (Sub.trans (sk (Sub.trans (sk (Sub.trans (sk (Sub.trans (sk (Sub.trans (sk sr) (Sub.of_perm pm1))) (Sub.of_perm pm1))) (Sub.of_perm pm1))) (Sub.of_perm pm1))) (Sub.of_perm pm1))⟩
           ·trivial
           exact outs
        ·refine ⟨0, ?_, ⟨?_, (fun _ h => nomatch h)⟩, Sub.trans (sk (sk (sk (sk (sk (sd sn0)))))) (Sub.trans (sk (Sub.trans (sk (Sub.trans (sk (Sub.trans (sk (Sub.trans (sk sr) (Sub.of_perm pm1))) (Sub.of_perm pm1))) (Sub.of_perm pm1))) (Sub.of_perm pm1))) (Sub.of_perm pm1))⟩
         ·trivial
         exact outs
      ·rintro k0 u _
       refine gw ?_
       refine dw ([11], [6, 10]) (gw ?_)
       refine D.c0 1 rfl J24 (fun w hw => ze8 E qb n sm tb mb ms hok.on w (Rd.at 0 rfl w hw) (Rd.at 2 rfl w hw) (Rd.at 3 rfl w hw)) (gw ?_)
       refine D.c0 4 rfl J27 (fun w hw => zfo qb n sm tb w (Rd.at 0 rfl w hw)) ?_
       refine D.qY 5 rfl (Qt.load rfl (Ld.all (vs := askL q p x) (Has.at 4 rfl) rT (by rw [zcJ]; exact ce67))) ?_
       refine D.orNN (k1 := 6) (k2 := 10) sn rfl rfl (by kernel_rfl) (by kernel_rfl) rfl rfl rfl rfl ?_ ?_
       ·refine (OpV.con (Pre := []) (R := _) J43 rfl pr (fun w hw => zfL E hEm hE0 (getT E ms (hgt n, 0)) n hok.on q p x ow ow w (hx.go0 hw) (hp.go0 hw) (hT.at hw)) ?_)
        rintro v L' ⟨hh, r, rfl, rfl, haf⟩
        refine sbk (gw ?_)
        refine D.nN 10 rfl (OpV.alloc zT (fun b14 => (sbk ?_)))
        refine D.oN 11 rfl (OpV.storeV0 (v := hv (hh)) rfl rfl (zab ce49) (zai _) (zaf _) (sbk ?_))
        refine gw ?_
        refine D.fi (gw ?_)
        refine S.r (Qt.not rfl) (gw ?_)
        refine TC.ifb rfl (fun b122 => ?_) (fun b122 => ?_)
        ·refine gw ?_
         refine TC.ret (fR ?_)
         exact ⟨rfl, rfl⟩
        ·refine gw ?_
         refine S.r (Qt.load rfl (Ld.row (vs := ordL x) (Has.at 5 rfl) rT ce58 (zfn _ _ _))) (gw ?_)
         refine S.r (Qt.load rfl (Ld.row (vs := p.rs) (Has.at 5 rfl) rT (by rw [p.len]; exact ce65) (zbz _ _ _))) ?_
         refine S.cn J35 (fun w hw => zex E n hok.on qb sm tb mb ms x.A x.c x.B x.d x.o hx.cap ow ow hx.blk p.rs p.err p.P p.p p.pa p.Q p.q p.pb p.len hp1 p.k2 p.k27 p.k28 hp.capp hp.capq w (Rd.at 1 rfl w hw) (Rd.at 3 rfl w hw) (Rd.at 4 rfl w hw) hx.low (Rd.ro hx.ro w hw) (Rd.ro hx.rs w hw) (Rd.ro hp.rop w hw) (Rd.ro hp.roq w hw) (hT.at hw)) ?_
         rintro v L' ⟨O6, d6, ss, Ls6, rfl, rfl, e2, l2x, m2⟩
         refine gw ?_
         refine S.r (Qt.load rfl (Ld.row (vs := ordL x) (Has.at 7 rfl) rT ce58 (zfn _ _ _))) ?_
         have hfit : zce x.o n := (haf (by simpa using b122)).1
         refine S.o (OpV.con (Pre := [Blk qb 160 [.int .u64 (n : Int), .map (some sm), .pointer (some ⟨tb, 0, none⟩)], MapA sm encU sv Y, Blk tb 243 (zar E (hgt n) mb), MapA mb zau hv ms]) (R := _) J38 rfl (pm3.trans (pc (pm3.trans (pc (pm3.trans (pc pm3)))))) (fun w hw => (by have k := zp5 E hEm hE hE0 (12 * os.length) ow qb n sm tb mb Y ms x.A x.c x.B x.d x.o ow ow hok w hw.sat.left hx.low (Ro.of_pre hw hx.ro) (Ro.of_pre hw hx.rs) (hT.pre hw); rw [show doE x.o n = 0 by rw [doE, if_pos hfit]] at k; exact k)) ?_)
         rintro v L' ⟨tb3, mb3, ms3, rfl, rfl, hok3⟩
         refine gw ?_
         refine dw ([], []) (gw ?_)
         refine D.c0 2 rfl J24 (fun w hw => ze8 E qb (doN x.o n) sm tb3 mb3 ms3 hok3.on w (Rd.at 0 rfl w hw) (Rd.at 2 rfl w hw) (Rd.at 3 rfl w hw)) ?_
         refine D.decX (k := 3) rfl (by kernel_rfl) (by kernel_rfl) (by kernel_rfl) rfl rfl (Qt.eqH (a := hh) (b := getT E ms3 (hgt (doN x.o n), 0)) guard49 uT uT cT rfl rfl) (fun h137 => gw ?_) (fun h137 => gw ?_)
         ·refine D.fi ?_
          refine TC.ret (fR ?_)
          exact ⟨rfl, rfl⟩
         ·refine D.cg0 6 rfl rfl J16 (fun w hw => Calls.ret (zcX O6 d6 ss l2x (by have k := zh3 hE hE0 hok (haf (by simpa using b122)) hok3 h137; rw [← he, ← e2, List.length_map] at k; exact k) w (Rd.own (Rd.at 4 rfl) w hw) (PxRo.many (Rd.at 5 rfl) m2 hw) (PxLe.of e2 zqc) (hT.at hw) (hT2.at hw))) (gw ?_)
          refine D.fi ?_
          refine TC.ret (fR ?_)
          exact ⟨rfl, rfl⟩
       ·refine (OpV.alloc zT (fun b14 => (sbk ?_)))
        refine D.nZ 6 rfl J43 (fun w hw => zfL E hEm hE0 (getT E ms (hgt n, 0)) n hok.on q p x ow ow w (hx.go0 hw) (hp.go0 hw) (hT.at hw)) ?_
        rintro v L' ⟨hh, r, rfl, rfl, haf⟩
        refine gw ?_
        refine D.oN 11 rfl (OpV.storeV0 (v := hv (hh)) rfl rfl (zab ce49) (zai _) (zaf _) (sbk ?_))
        refine gw ?_
        refine D.fi (gw ?_)
        refine S.r (Qt.not rfl) (gw ?_)
        refine TC.ifb rfl (fun b122 => ?_) (fun b122 => ?_)
        ·refine gw ?_
         refine TC.ret (fR ?_)
         exact ⟨rfl, rfl⟩
        ·refine gw ?_
         refine S.r (Qt.load rfl (Ld.row (vs := ordL x) (Has.at 5 rfl) rT ce58 (zfn _ _ _))) (gw ?_)
         refine S.r (Qt.load rfl (Ld.row (vs := p.rs) (Has.at 5 rfl) rT (by rw [p.len]; exact ce65) (zbz _ _ _))) ?_
         refine S.cn J35 (fun w hw => zex E n hok.on qb sm tb mb ms x.A x.c x.B x.d x.o hx.cap ow ow hx.blk p.rs p.err p.P p.p p.pa p.Q p.q p.pb p.len hp1 p.k2 p.k27 p.k28 hp.capp hp.capq w (Rd.at 1 rfl w hw) (Rd.at 3 rfl w hw) (Rd.at 4 rfl w hw) hx.low (Rd.ro hx.ro w hw) (Rd.ro hx.rs w hw) (Rd.ro hp.rop w hw) (Rd.ro hp.roq w hw) (hT.at hw)) ?_
         rintro v L' ⟨O6, d6, ss, Ls6, rfl, rfl, e2, l2x, m2⟩
         refine gw ?_
         refine S.r (Qt.load rfl (Ld.row (vs := ordL x) (Has.at 7 rfl) rT ce58 (zfn _ _ _))) ?_
         have hfit : zce x.o n := (haf (by simpa using b122)).1
         refine S.o (OpV.con (Pre := [Blk qb 160 [.int .u64 (n : Int), .map (some sm), .pointer (some ⟨tb, 0, none⟩)], MapA sm encU sv Y, Blk tb 243 (zar E (hgt n) mb), MapA mb zau hv ms]) (R := _) J38 rfl (pm3.trans (pc (pm3.trans (pc (pm3.trans (pc pm3)))))) (fun w hw => (by have k := zp5 E hEm hE hE0 (12 * os.length) ow qb n sm tb mb Y ms x.A x.c x.B x.d x.o ow ow hok w hw.sat.left hx.low (Ro.of_pre hw hx.ro) (Ro.of_pre hw hx.rs) (hT.pre hw); rw [show doE x.o n = 0 by rw [doE, if_pos hfit]] at k; exact k)) ?_)
         rintro v L' ⟨tb3, mb3, ms3, rfl, rfl, hok3⟩
         refine gw ?_
         refine dw ([], []) (gw ?_)
         refine D.c0 2 rfl J24 (fun w hw => ze8 E qb (doN x.o n) sm tb3 mb3 ms3 hok3.on w (Rd.at 0 rfl w hw) (Rd.at 2 rfl w hw) (Rd.at 3 rfl w hw)) ?_
         refine D.decX (k := 3) rfl (by kernel_rfl) (by kernel_rfl) (by kernel_rfl) rfl rfl (Qt.eqH (a := hh) (b := getT E ms3 (hgt (doN x.o n), 0)) guard49 uT uT cT rfl rfl) (fun h137 => gw ?_) (fun h137 => gw ?_)
         ·refine D.fi ?_
          refine TC.ret (fR ?_)
          exact ⟨rfl, rfl⟩
         ·refine D.cg0 6 rfl rfl J16 (fun w hw => Calls.ret (zcX O6 d6 ss l2x (by have k := zh3 hE hE0 hok (haf (by simpa using b122)) hok3 h137; rw [← he, ← e2, List.length_map] at k; exact k) w (Rd.own (Rd.at 4 rfl) w hw) (PxRo.many (Rd.at 5 rfl) m2 hw) (PxLe.of e2 zqc) (hT.at hw) (hT2.at hw))) (gw ?_)
          refine D.fi ?_
          refine TC.ret (fR ?_)
          exact ⟨rfl, rfl⟩
theorem zhd (n0 : Nat) (hn64 : n0 < 18446744073709551616) (OA : OAd) (oc : Nat) (os : List OrdA) (ho : os.length ≤ 2199023255488) (q : ReqA) (p : RepA) (x : OrdA) (hq1 : q.rq.all (·.oneCell') = true) (hp1 : p.rs.all (·.oneCell') = true) (w0 : World) (hO : Ro w0 [] (SlA OA (os.flatMap ordL))) (hos : ∀ o ∈ os, o.Ok w0) (hq : q.Ok w0) (hp : p.Ok w0) (hx : x.Ok w0) (hT : Tabs 3 1 w0 []) (hT2 : Tabs 2 0 w0 []) : Calls prog 7 #[.int .u64 (n0 : Int), .slice OA os.length oc, .agg (askL q p x).toArray] w0 (Post w0 [] fun v L => v = .bool true ∧ L = []) :=
 zqd zje (fun w h => zod w h) rfl (fun _ => rfl) n0 hn64 OA oc os ho q p x hq1 hp1 w0 hO hos hq hp hx hT hT2
end Go.Proofs.YtgdjcmehlhebdaaGreatDoor
