/- Walks: more than is looked at; what a nil truth answers -/
import Derived.Test.YtgdjcmehlhebdaaGreatDoorYD
import Derived.Test.YtgdjcmehlhebdaaGreatDoorYK
set_option maxHeartbeats 25600000
namespace Go.Proofs.YtgdjcmehlhebdaaGreatDoor
open _root_.Go.Proofs.Tryz
open Go.E
set_option maxRecDepth 4000
theorem elem58 : zcn prog 58 4 64 := zcv (by kernel_rfl)
theorem zfI (OA : OAd) (oc : Nat) (os : List OrdA) (ho : os.length ≤ 2199023255488) (q : ReqA) (p : RepA) (x : OrdA) (w0 : World) (hO : Ro w0 [] (SlA OA (os.flatMap ordL))) :
  Calls prog 20 #[.slice OA os.length oc, .agg (askL q p x).toArray] w0 (Post w0 [] fun v L => v = .bool (decide (zdB os q p x)) ∧ L = []) := by
 refine co 65 [.tmp 4] func20 ?_
 refine gw ?_
 intro b3
 refine gw ?_
 refine S.r (Qt.load rfl (Ld.row (vs := ordL x) hz0 rT ce58 (zfn _ _ _))) ?_
 refine S.o (OpV.sliceLO (vs := [.agg (ordL x).toArray]) uT elem58 rfl (by decide) rfl (by intro v hv; rw [List.mem_singleton.1 hv]; rfl) (fun g9 => ?_))
 refine gw ?_
 refine S.o (OpV.app0 (bytes := 64) (news := os.flatMap ordL) uT elem58 rfl rfl (Has.ro hO) (by rw [ziC]) (zrd _) (by simp only [maxLen]; omega) ow (fun O d => ?_))
 refine gw ?_
 refine TC.loop (γ := Nat) [14, 15, 16, 6, 17, 18, 19, 20, 21, 22, 23, 24, 25, 26, 4, 27, 13] (fun k => [(13, .int .i64 (k : Int))]) (fun k => [OwnA 58 4 O (1 + os.length) d (ordL x ++ os.flatMap ordL), Blk b3 67 (askL q p x)]) (fun k => k ≤ 1 + os.length ∧ ∀ i, i < k → ¬ bigO ((x :: os).getD i ord0)) (fun k => 1 + os.length - k) (0)
  ⟨Nat.zero_le _, fun i h => absurd h (Nat.not_lt_zero _)⟩ ⟨Out.refl _ _, ag⟩ sr ?_
 rintro k u ⟨hk, hq⟩
 refine gw ?_
 refine S.dec rfl rfl (Qt.lt rfl rfl) (fun h14 => gw ?_) (fun h14 => gw ?_)
 ·refine S.r (Qt.index uT cT rfl rfl ow (Has.own hz0) (by rw [show ordL x ++ os.flatMap ordL = (x :: os).flatMap ordL from rfl, ziC, List.length_cons]; omega)) ?_
  refine S.r (Qt.load rfl (Ld.slr (vs := ordL ((x :: os).getD k ord0)) (Has.own hz0) rT ce58 (Nat.zero_lt_succ _) (zo8 (os := (x :: os)) (by rw [List.length_cons]; omega) rfl))) (gw ?_)
  intro b6
  refine S.opN rfl (OpV.storeV0 (v := .agg (ordL ((x :: os).getD k ord0)).toArray) rfl rfl (by exact ce58) (zf4 _) (by rfl) ?_)
  refine gw ?_
  refine S.dec rfl rfl (Qt.gt (b := 12) rfl rfl) (fun h20 => gw ?_) (fun h20 => gw ?_)
  ·refine TC.ret (fR ?_)
   exact ⟨congrArg Value.bool (decide_eq_true (p := zdB os q p x) (.inl (zo9 (by rw [List.length_cons]; omega) (.inl h20)))).symm, rfl⟩
  ·refine S.decg rfl rfl rfl (Qt.gt (b := 12) rfl rfl) (fun h25 => gw ?_) (fun h25 => gw ?_)
   ·refine TC.ret (fR ?_)
    exact ⟨congrArg Value.bool (decide_eq_true (p := zdB os q p x) (.inl (zo9 (by rw [List.length_cons]; omega) (.inr h25)))).symm, rfl⟩
   ·refine ⟨k + 1, ?_, ?_, ⟨?_, ag⟩, Sub.trans (sk (sk (sd sn0))) (Sub.trans (sk (Sub.trans (sk sr) (Sub.of_perm pm1))) (Sub.of_perm pm1))⟩
    ·exact ⟨by show _ ≤ _; omega, fun i hi => (Nat.lt_or_ge i k).elim (hq i) (fun h => by (obtain rfl : i = k := by omega); exact fun hb => hb.elim h20 h25)⟩
    ·show _ < _; dsimp only; omega
    exact outs
 ·refine TC.exit (TC.seq (gw ?_))
  refine S.dec rfl rfl (Qt.gt (b := 20) rfl rfl) (fun h30 => gw ?_) (fun h30 => gw ?_)
  ·refine TC.ret (fR ?_)
   exact ⟨congrArg Value.bool (decide_eq_true (p := zdB os q p x) (.inr (.inl h30))).symm, rfl⟩
  ·refine S.qg rfl rfl rfl (Qt.load rfl (Ld.one (v := .slice q.A q.xs.length q.c) hz1 oT (ziD _ _ _ q.k2))) (gw ?_)
   refine S.decg rfl rfl rfl (Qt.gt (b := 30) rfl rfl) (fun h36 => gw ?_) (fun h36 => gw ?_)
   ·refine TC.ret (fR ?_)
    exact ⟨congrArg Value.bool (decide_eq_true (p := zdB os q p x) (.inr (.inr (.inl h36)))).symm, rfl⟩
   ·refine S.qg rfl rfl rfl (Qt.load rfl (Ld.one (v := .int .i64 q.many) hz1 oT (ziD _ _ _ q.k4))) ?_
    refine S.decg rfl rfl rfl (Qt.gti rfl rfl) (fun h42 => gw ?_) (fun h42 => gw ?_)
    ·refine TC.ret (fR ?_)
     exact ⟨congrArg Value.bool (decide_eq_true (p := zdB os q p x) (.inr (.inr (.inr (.inl h42))))).symm, rfl⟩
    ·refine S.qg rfl rfl rfl (Qt.load rfl (Ld.one (v := .slice p.I p.its.length p.i) hz1 oT (zbz _ _ _ 3 _ p.k3))) (gw ?_)
     refine S.decg rfl rfl rfl (Qt.gt (b := 40) rfl rfl) (fun h49 => gw ?_) (fun h49 => gw ?_)
     ·refine TC.ret (fR ?_)
      exact ⟨congrArg Value.bool (decide_eq_true (p := zdB os q p x) (.inr (.inr (.inr (.inr (.inl h49)))))).symm, rfl⟩
     ·refine S.qg rfl rfl rfl (Qt.load rfl (Ld.one (v := .slice p.P p.pa.length p.p) hz1 oT (zbz _ _ _ 27 _ p.k27))) (gw ?_)
      refine S.decg rfl rfl rfl (Qt.gt (b := 60) rfl rfl) (fun h56 => gw ?_) (fun h56 => gw ?_)
      ·refine TC.ret (fR ?_)
       exact ⟨congrArg Value.bool (decide_eq_true (p := zdB os q p x) (.inr (.inr (.inr (.inr (.inr (.inl h56))))))).symm, rfl⟩
      ·refine S.qg rfl rfl rfl (Qt.load rfl (Ld.one (v := .slice p.Q p.pb.length p.q) hz1 oT (zbz _ _ _ 28 _ p.k28))) (gw ?_)
       refine S.decg rfl rfl rfl (Qt.gt (b := 300) rfl rfl) (fun h63 => gw ?_) (fun h63 => gw ?_)
       ·refine TC.ret (fR ?_)
        exact ⟨congrArg Value.bool (decide_eq_true (p := zdB os q p x) (.inr (.inr (.inr (.inr (.inr (.inr (h63)))))))).symm, rfl⟩
       ·refine TC.ret (fR ?_)
        have hnb := zre (fun i hi => hq i (by rw [List.length_cons] at hi; omega))
        refine ⟨congrArg Value.bool (decide_eq_false (p := zdB os q p x) fun h => ?_).symm, rfl⟩
        rcases h with h | h | h | h | h | h | h
        ·exact hnb h
        ·exact h30 h
        ·exact h36 h
        ·exact h42 h
        ·exact h49 h
        ·exact h56 h
        ·exact h63 h
theorem J20 : zae prog 20 := ⟨_, func20, by kernel_rfl, rfl⟩
theorem J24 : zae prog 24 := ⟨_, func24, by kernel_rfl, rfl⟩
theorem J29 : zae prog 29 := ⟨_, func29, by kernel_rfl, rfl⟩
theorem J32 : zae prog 32 := ⟨_, func32, by kernel_rfl, rfl⟩
theorem J38 : zae prog 38 := ⟨_, func38, by kernel_rfl, rfl⟩
theorem J40 : zae prog 40 := ⟨_, func40, by kernel_rfl, rfl⟩
theorem J79 : zae prog 79 := ⟨_, func79, by kernel_rfl, rfl⟩
theorem zlb (q : ReqA) (hk : q.kind = 1) (w0 : World) :
  Calls prog 79 #[.agg q.rq.toArray] w0 (Post w0 [] fun v L => v = .slice q.A q.xs.length q.c ∧ L = []) := by
 refine co 16 [.tmp 2] func79 ?_
 refine gw ?_
 intro b1
 refine gw ?_
 refine S.r (Qt.load rfl (Ld.one (v := .int .i64 q.kind) hz0 oT (q.k1))) (gw ?_)
 refine S.r (Qt.dT (Qt.eqi rfl rfl) (hk)) (gw ?_)
 refine S.r (Qt.load rfl (Ld.one (v := .slice q.A q.xs.length q.c) hz0 oT (q.k2))) (gw ?_)
 refine TC.ret (fR ?_)
 exact ⟨rfl, rfl⟩
theorem zlc (q : ReqA) (hk : ¬ q.kind = 1) (hk2 : q.kind = 2) (n : Nat) (hn : q.many = (n : Int)) (h1 : 1 ≤ n) (h2 : n ≤ 256) (hf : q.first + n ≤ 2 ^ 32) (w0 : World) :
  Calls prog 79 #[.agg q.rq.toArray] w0 (Post w0 [] fun v L => ∃ O d, v = .slice O n d ∧ L = [OwnA 40 1 O n d (u64s ((List.range n).map (q.first + ·)))]) := by
 refine co 16 [.tmp 2] func79 ?_
 refine gw ?_
 intro b1
 refine gw ?_
 refine S.r (Qt.load rfl (Ld.one (v := .int .i64 q.kind) hz0 oT (q.k1))) (gw ?_)
 refine S.r (Qt.dF (Qt.eqi rfl rfl) (hk)) (gw ?_)
 refine S.r (Qt.dT (Qt.eqi rfl rfl) (hk2)) (gw ?_)
 refine S.r (Qt.load rfl (Ld.one (v := .int .u64 (q.first : Int)) hz0 oT (q.k3))) (gw ?_)
 refine S.r (Qt.load rfl (Ld.one (v := .int .i64 (n : Int)) hz0 oT ((by rw [← hn]; exact q.k4)))) ?_
 refine S.cn J40 (fun w hw => zfH q.first n h1 h2 hf w) ?_
 rintro v L' ⟨O, d, rfl, rfl⟩
 refine gw ?_
 refine TC.ret (fin1 (sk (sd sn0)) ?_)
 exact ⟨O, d, rfl, rfl⟩
end Go.Proofs.YtgdjcmehlhebdaaGreatDoor
