/- Walks: what a truth holds a reply against -/
import Derived.Test.YtgdjcmehlhebdaaGreatDoorYN1
import Derived.Test.YtgdjcmehlhebdaaGreatDoorYSb
set_option maxHeartbeats 25600000
namespace Go.Proofs.YtgdjcmehlhebdaaGreatDoor
open _root_.Go.Proofs.Tryz
open Go.E
set_option maxRecDepth 4000
theorem J81 : zae prog 81 := ⟨_, func81, by kernel_rfl, rfl⟩
theorem J85 : zae prog 85 := ⟨_, func85, by kernel_rfl, rfl⟩
theorem bld43 (A : OAd) (n c : Nat) (B : OAd) (m d : Nat) (w : World) : (Instr.build 43 #[(0, .slice A n c), (1, .slice B m d)]).run prog w = .ok (.agg #[.slice A n c, .slice B m d]) w := by kernel_rfl
theorem bld46 (A : OAd) (n c : Nat) (B : OAd) (m d : Nat) (Z : OAd) (k e : Nat) (w : World) : (Instr.build 46 #[(0, .slice A n c), (1, .agg #[.slice B m d, .slice Z k e])]).run prog w = .ok (.agg #[.slice A n c, .slice B m d, .slice Z k e]) w := by kernel_rfl
theorem St.many_two {w0 w : World} {M : List Nat} {A : Assn} {L1 L2 : List Assn} (h : St w0 M [A, Many L1, Many L2] w) : St w0 M [A, Many (L1 ++ L2)] w := by
 have h1 : St w0 M (Many L1 :: Many L2 :: [A]) w := h.perm (List.Perm.trans (List.Perm.swap ..) (pc (List.Perm.swap ..)))
 have h2 := St.many.1 h1
 have h3 : St w0 M (Many L2 :: (L1 ++ [A])) w := h2.perm List.perm_middle
 have h4 := St.many.1 h3
 have h5 : St w0 M ((L1 ++ L2) ++ [A]) w := h4.perm (by rw [← List.append_assoc]; exact List.Perm.append_right _ List.perm_append_comm)
 exact (St.many.2 h5).perm (List.Perm.swap ..)
theorem zp9 {T : TypeId} {E1 E2 : List Pr} {P : Program} {f : FuncId} {args : Array Value} {w0 : World} (h : Calls P f args w0 (Post w0 [] fun v L => ∃ (O : OAd) (d : Nat) (ps qs : List Px) (Ls Ms : List Assn), v = .slice O (ps.length + qs.length) d ∧ L = [OwnA T 2 O (ps.length + qs.length) d (ps.flatMap pxL ++ qs.flatMap pxL), Many Ls, Many Ms] ∧ ps.map pxT = E1 ∧ qs.map pxT = E2 ∧ ps.length + qs.length ≤ 16384 ∧ (∀ p ∈ ps, zaN p.1 ∈ Ls ∧ zaN p.2 ∈ Ls) ∧ ∀ p ∈ qs, zaN p.1 ∈ Ms ∧ zaN p.2 ∈ Ms)) : Calls P f args w0 (Post w0 [] fun v L => PxQ T (E1 ++ E2) v L) :=
 h.mono fun e w ⟨v, L, h1, h2, O, d, ps, qs, Ls, Ms, h3, h4, h5, h6, h7, h8, h9⟩ => ⟨v, [OwnA T 2 O (ps ++ qs).length d ((ps ++ qs).flatMap pxL), Many (Ls ++ Ms)], h1, by subst h4; rw [List.length_append, List.flatMap_append]; exact St.many_two h2, O, d, ps ++ qs, Ls ++ Ms, by rw [h3, List.length_append], rfl, by rw [List.map_append, h5, h6], by rw [List.length_append]; exact h7, fun p hp => (List.mem_append.1 hp).elim (fun k => ⟨List.mem_append.2 (.inl (h8 p k).1), List.mem_append.2 (.inl (h8 p k).2)⟩) (fun k => ⟨List.mem_append.2 (.inr (h9 p k).1), List.mem_append.2 (.inr (h9 p k).2)⟩)⟩
theorem zqa (ps : List Px) : ∀ u ∈ ps.flatMap pxL, u.oneCell' = true := fun u hu => by
 obtain ⟨p, _, h⟩ := List.mem_flatMap.1 hu
 rcases List.mem_cons.1 h with rfl | h
 ·rfl
 ·rw [List.mem_singleton.1 h]; rfl
theorem zqb (ps : List Px) : (ps.flatMap pxL).length = ps.length * 2 := by
 induction ps with
 | nil => rfl
 | cons p ps ih => rw [List.flatMap_cons, List.length_append, ih, List.length_cons]; show 2 + ps.length * 2 = _; omega
theorem zrA (q : ReqA) (hk : ¬ q.kind = 1) (hk2 : q.kind = 2) (n : Nat) (hn : q.many = (n : Int)) (h1 : 1 ≤ n) (h2 : n ≤ 256) (hf : q.first + n ≤ 2 ^ 32) (xs : List Nat) (hx : xs = (List.range n).map (q.first + ·)) (w0 : World) : Calls prog 79 #[.agg q.rq.toArray] w0 (Post w0 [] fun v L => ∃ O d, v = .slice O xs.length d ∧ L = [OwnA 40 1 O xs.length d (u64s xs)]) := by
 have h := zlc q hk hk2 n hn h1 h2 hf w0
 have e : xs.length = n := by rw [hx, List.length_map, List.length_range]
 rw [e, hx]; exact h
theorem zkg (E : Nat → H32) (qb n sm tb mb : Nat) (Y : Sm) (ms : Tm) (hon : okN n) (q : ReqA) (p : RepA) (hk : q.kind = 1) (hi : idxOk (hgt n) q.xs) (hl : p.its.length = q.xs.length) (he : p.err = 0) (w0 : World) (hq : q.Ok w0) (hp : p.Ok w0) (hQ : Ro w0 [] (Blk qb 160 [.int .u64 (n : Int), .map (some sm), .pointer (some ⟨tb, 0, none⟩)])) (hB : Ro w0 [] (Blk tb 243 (zar E (hgt n) mb))) (hM : Ro w0 [] (MapA mb zau hv ms)) (hSm : Ro w0 [] (MapA sm encU sv Y)) (hT : Tabs 3 1 w0 []) :
  Calls prog 32 #[.pointer (some ⟨qb, 0, none⟩), .agg q.rq.toArray, .agg p.rs.toArray] w0 (Post w0 [] fun v L => ∃ (O : OAd) (d : Nat) (ps qs : List Px) (Ls Ms : List Assn), v = .slice O (ps.length + qs.length) d ∧ L = [OwnA 114 2 O (ps.length + qs.length) d (ps.flatMap pxL ++ qs.flatMap pxL), Many Ls, Many Ms] ∧ ps.map pxT = (zbl (zbp (hgt n : Int) q.xs (q.xs.map (fun x => getT E ms (0, x))) ((zaj (hgt n) q.xs 0).map (fun a => getT E ms a))) (zbp (hgt n : Int) q.xs (za4 q.xs p.its q.xs.length) p.pb)) ∧ qs.map pxT = (zbl (zbA q.xs (q.xs.map (itS Y))) (zbA q.xs p.its)) ∧ ps.length + qs.length ≤ 16384 ∧ (∀ p ∈ ps, zaN p.1 ∈ Ls ∧ zaN p.2 ∈ Ls) ∧ ∀ p ∈ qs, zaN p.1 ∈ Ms ∧ zaN p.2 ∈ Ms) := by
 refine co 132 [.tmp 6] func32 ?_
 have hh := zb0 hon
 refine gw ?_
 intro b4
 refine gw ?_
 intro b5
 refine gw ?_
 refine S.r (Qt.load rfl (Ld.all (vs := q.rq) hz1 rT (by rw [q.len]; exact ce63))) ?_
 refine S.c0 J79 (fun w hw => Calls.ret (zlb q hk w)) (gw ?_)
 refine S.qg rfl rfl rfl (Qt.load rfl (Ld.one (v := .int .i64 p.err) hz0 oT (p.k2))) ?_
 refine S.qg rfl rfl rfl (Qt.dF (Qt.nei rfl rfl) (fun e => e he)) (gw ?_)
 refine S.g0 J80 (fun w hw => zbc E tb mb (hgt n) w (Rd.ro hB w hw)) (gw ?_)
 refine S.g0 J41 (fun w hw => zb6 (hgt n) hh q.A q.c q.xs hi w hq.low (Rd.ro hq.ro w hw)) (gw ?_)
 refine S.qg rfl rfl rfl (Qt.load rfl (Ld.one (v := .slice p.I p.its.length p.i) hz0 oT (p.k3))) (gw ?_)
 refine S.qg rfl rfl rfl (Qt.dF (Qt.ne rfl rfl) (fun e => e hl)) (gw ?_)
 refine S.r (Qt.load rfl (Ld.one (v := .slice p.I p.its.length p.i) hz0 oT (p.k3))) ?_
 refine S.cn J81 (fun w hw => ze9 q.A q.c q.xs p.I p.i p.its (by have := hi.2.1; omega) hl (fun y hy => Nat.lt_of_lt_of_le (hi.low y hy) (Nat.pow_le_pow_right (by decide) hh)) w hq.low (Rd.ro hq.ro w hw) (Rd.ro hp.roi w hw) (hT.at hw)) ?_
 rintro v L' ⟨O1, d1, rfl, rfl⟩
 refine gw ?_
 refine S.cn J82 (fun w hw => zdn E tb mb (hgt n) ms hh q.A q.c q.xs hi w (Rd.ro hB w hw) (Rd.ro hM w hw) hq.low (Rd.ro hq.ro w hw)) ?_
 rintro v L' ⟨O2, d2, rfl, rfl⟩
 refine gw ?_
 refine S.r (Qt.load rfl (Ld.one (v := .int .i64 q.kind) hz3 oT (q.k1))) ?_
 refine S.r (Qt.dT (Qt.eqi rfl rfl) (hk)) (gw ?_)
 refine S.cn J83 (fun w hw => zgA E tb mb (hgt n) ms hh q.A q.c q.xs hq.cap hi w (Rd.ro hB w hw) (Rd.ro hM w hw) hq.low (Rd.ro hq.ro w hw)) ?_
 rintro v L' ⟨O3, d3, rfl, rfl⟩
 refine gw ?_
 refine dw ([], [13]) (gw ?_)
 refine D.c0 4 rfl J80 (fun w hw => zbc E tb mb (hgt n) w (Rd.ro hB w hw)) (gw ?_)
 refine D.qY 8 rfl (Qt.build2 (a := .slice O2 q.xs.length d2) (b := .slice O3 (zaj (hgt n) q.xs 0).length d3) rfl rfl (build47 _ _ _ _ _ _)) (gw ?_)
 refine D.qY 11 rfl (Qt.load rfl (Ld.one (v := .slice p.Q p.pb.length p.q) hz3 oT (p.k28))) ?_
 refine D.qY 12 rfl (Qt.build2 (a := .slice O1 q.xs.length d1) (b := .slice p.Q p.pb.length p.q) rfl rfl (build47 _ _ _ _ _ _)) ?_
 refine D.nZ 13 rfl J84 (fun w hw => (by have k := zdS (hgt n : Int) q.A q.c q.xs hq.cap O2 d2 (q.xs.map (fun x => getT E ms (0, x))) O3 d3 ((zaj (hgt n) q.xs 0).map (fun a => getT E ms a)) O1 d1 (za4 q.xs p.its q.xs.length) p.Q p.q p.pb (by rw [List.length_map]; exact (zaL (hw.ok (List.mem_of_getElem? (i := 1) rfl))).1) (by rw [List.length_map]; exact (zaL (hw.ok (List.mem_of_getElem? (i := 0) rfl))).1) (by rw [za6]; exact (zaL (hw.ok (List.mem_of_getElem? (i := 2) rfl))).1) hp.capq w hq.low (Rd.ro hq.ro w hw) (Rd.own (Rd.at 1 rfl) w hw) (Rd.own (Rd.at 0 rfl) w hw) (Rd.own (Rd.at 2 rfl) w hw) (Rd.ro hp.roq w hw) (hT.at hw); simp only [List.length_map, za6] at k; exact k : Calls prog 84 #[.int .i64 (hgt n : Int), .slice q.A q.xs.length q.c, .agg #[.slice O2 q.xs.length d2, .slice O3 (zaj (hgt n) q.xs 0).length d3], .agg #[.slice O1 q.xs.length d1, .slice p.Q p.pb.length p.q]] w (Post w [] fun v L => PxQ 114 (zbl (zbp (hgt n : Int) q.xs (q.xs.map (fun x => getT E ms (0, x))) ((zaj (hgt n) q.xs 0).map (fun a => getT E ms a))) (zbp (hgt n : Int) q.xs (za4 q.xs p.its q.xs.length) p.pb)) v L))) ?_
 rintro v L' ⟨O4, d4, pp, Ls, rfl, rfl, e1, e2, e3⟩
 refine gw ?_
 refine D.fi (gw ?_)
 refine S.draw ([8], [4, 7]) mixed (sd (sk (sk (sk (sk (sk (sk sn0))))))) (gw ?_)
 refine D.qY 6 rfl (Qt.load rfl (Ld.one (v := .slice p.I p.its.length p.i) (Has.at 5 rfl) oT (p.k3))) ?_
 refine D.nZ 4 rfl J29 (fun w hw => zcm qb n sm tb Y q.A q.c q.xs (by have := hi.2.1; omega) w (Rd.ro hQ w hw) (Rd.ro hSm w hw) (Rd.ro hq.ro w hw)) ?_
 rintro v L' ⟨O7, d7, rfl, rfl⟩
 refine D.nZ 7 rfl J9 (fun w hw => (by have k := zey q.A q.c q.xs (by have := hi.2.1; omega) O7 d7 (q.xs.map (itS Y)) p.I p.i p.its w hq.low (Rd.ro hq.ro w hw) (Rd.own (Rd.at 0 rfl) w hw) (Rd.ro hp.roi w hw); simp only [List.length_map] at k; exact k : Calls prog 9 #[.slice q.A q.xs.length q.c, .slice O7 q.xs.length d7, .slice p.I p.its.length p.i] w (Post w [] fun v L => PxQ 114 (zbl (zbA q.xs (q.xs.map (itS Y))) (zbA q.xs p.its)) v L))) ?_
 rintro v L' ⟨O8, d8, qq, Ls2, rfl, rfl, f1, f2, f3⟩
 refine D.oS 8 rfl (OpV.app3 (bytes := 48) (news := qq.flatMap pxL) uT elem114 rfl rfl (Has.own hz0) (zqb qq) (zqa qq) (by simp only [maxLen]; omega) ow (fun O9 d9 => (sbk ?_)))
 refine gw ?_
 refine D.fi ?_
 refine TC.ret (fin1 (Sub.trans (sk (sk (sk (sd (sd (sd (sd (sd (sd (sd sn0)))))))))) (Sub.trans (sk (Sub.trans (sk (Sub.trans (sk sr) (Sub.of_perm pm1))) (Sub.of_perm pm3))) (Sub.of_perm pm3))) ?_)
 exact ⟨_, _, pp, qq, Ls, Ls2, rfl, rfl, e1, f1, by have a1 := congrArg List.length e1; have a2 := congrArg List.length f1; rw [List.length_map] at a1 a2; have b1 := zpC hh hi.2.1 (q.xs.map (fun x => getT E ms (0, x))) ((zaj (hgt n) q.xs 0).map (fun a => getT E ms a)) (za4 q.xs p.its q.xs.length) p.pb; have b2 := zfv hi.2.1 (q.xs.map (itS Y)) p.its; omega, e3, f3⟩
theorem zkh (E : Nat → H32) (qb n sm tb mb : Nat) (Y : Sm) (ms : Tm) (hon : okN n) (q : ReqA) (p : RepA) (hk : q.kind = 2) (m : Nat) (hn : q.many = (m : Int)) (hm1 : 1 ≤ m) (hm2 : m ≤ 256) (hfm : q.first + m ≤ 2 ^ hgt n) (hf32 : q.first + m ≤ 2 ^ 32) (xs : List Nat) (hxs : xs = (List.range m).map (q.first + ·)) (hlow : ∀ x ∈ xs, x < 18446744073709551616) (hi : idxOk (hgt n) xs) (hl : p.its.length = xs.length) (he : p.err = 0) (w0 : World) (hq : q.Ok w0) (hp : p.Ok w0) (hQ : Ro w0 [] (Blk qb 160 [.int .u64 (n : Int), .map (some sm), .pointer (some ⟨tb, 0, none⟩)])) (hB : Ro w0 [] (Blk tb 243 (zar E (hgt n) mb))) (hM : Ro w0 [] (MapA mb zau hv ms)) (hSm : Ro w0 [] (MapA sm encU sv Y)) (hT : Tabs 3 1 w0 []) :
  Calls prog 32 #[.pointer (some ⟨qb, 0, none⟩), .agg q.rq.toArray, .agg p.rs.toArray] w0 (Post w0 [] fun v L => ∃ (O : OAd) (d : Nat) (ps qs : List Px) (Ls Ms : List Assn), v = .slice O (ps.length + qs.length) d ∧ L = [OwnA 114 2 O (ps.length + qs.length) d (ps.flatMap pxL ++ qs.flatMap pxL), Many Ls, Many Ms] ∧ ps.map pxT = (if (xs.map (fun x => getT E ms (0, x))).length = (za4 xs p.its xs.length).length then zbl (zbY (hgt n : Int) q.first (xs.map (fun x => getT E ms (0, x))) ((zaq q.first (hgt n)).map (fun a => getT E ms a)) ((zan (q.first + m - 1) (hgt n)).map (fun a => getT E ms a))) (zbY (hgt n : Int) q.first (za4 xs p.its xs.length) p.pa p.pb) else []) ∧ qs.map pxT = (zbl (zbA xs (xs.map (itS Y))) (zbA xs p.its)) ∧ ps.length + qs.length ≤ 16384 ∧ (∀ p ∈ ps, zaN p.1 ∈ Ls ∧ zaN p.2 ∈ Ls) ∧ ∀ p ∈ qs, zaN p.1 ∈ Ms ∧ zaN p.2 ∈ Ms) := by
 refine co 132 [.tmp 6] func32 ?_
 have hh := zb0 hon
 refine gw ?_
 intro b4
 refine gw ?_
 intro b5
 refine gw ?_
 refine S.r (Qt.load rfl (Ld.all (vs := q.rq) hz1 rT (by rw [q.len]; exact ce63))) ?_
 refine S.cn J79 (fun w hw => zrA q ow hk m hn hm1 hm2 hf32 xs hxs w) ?_
 rintro v L' ⟨X, x, rfl, rfl⟩
 refine gw ?_
 refine S.qg rfl rfl rfl (Qt.load rfl (Ld.one (v := .int .i64 p.err) hz1 oT (p.k2))) ?_
 refine S.qg rfl rfl rfl (Qt.dF (Qt.nei rfl rfl) (fun e => e he)) (gw ?_)
 refine S.g0 J80 (fun w hw => zbc E tb mb (hgt n) w (Rd.ro hB w hw)) (gw ?_)
 refine S.g0 J41 (fun w hw => zb6 (hgt n) hh X x xs hi w hlow (Rd.own (Rd.at 0 rfl) w hw)) (gw ?_)
 refine S.qg rfl rfl rfl (Qt.load rfl (Ld.one (v := .slice p.I p.its.length p.i) hz1 oT (p.k3))) (gw ?_)
 refine S.qg rfl rfl rfl (Qt.dF (Qt.ne rfl rfl) (fun e => e hl)) (gw ?_)
 refine S.r (Qt.load rfl (Ld.one (v := .slice p.I p.its.length p.i) hz1 oT (p.k3))) ?_
 refine S.cn J81 (fun w hw => ze9 X x xs p.I p.i p.its (by have := hi.2.1; omega) hl (fun y hy => Nat.lt_of_lt_of_le (hi.low y hy) (Nat.pow_le_pow_right (by decide) hh)) w hlow (Rd.own (Rd.at 0 rfl) w hw) (Rd.ro hp.roi w hw) (hT.at hw)) ?_
 rintro v L' ⟨O1, d1, rfl, rfl⟩
 refine gw ?_
 refine S.cn J82 (fun w hw => zdn E tb mb (hgt n) ms hh X x xs hi w (Rd.ro hB w hw) (Rd.ro hM w hw) hlow (Rd.own (Rd.at 1 rfl) w hw)) ?_
 rintro v L' ⟨O2, d2, rfl, rfl⟩
 refine gw ?_
 refine S.r (Qt.load rfl (Ld.one (v := .int .i64 q.kind) (Has.at 4 rfl) oT (q.k1))) ?_
 refine S.r (Qt.dF (Qt.eqi rfl rfl) ow) (gw ?_)
 refine dr ([13], [8, 12]) (gw ?_)
 refine D.qY 5 rfl (Qt.load rfl (Ld.one (v := .int .u64 (q.first : Int)) (Has.at 4 rfl) oT (q.k3))) (gw ?_)
 refine D.qY 7 rfl (Qt.load rfl (Ld.one (v := .int .i64 (m : Int)) (Has.at 4 rfl) oT (by rw [← hn]; exact q.k4))) ?_
 refine D.orNN (k1 := 8) (k2 := 12) sr rfl rfl (by kernel_rfl) (by kernel_rfl) rfl rfl rfl rfl ?_ ?_
 ·refine (OpV.con (Pre := []) (R := _) J85 rfl pr (fun w hw => zjX E tb mb (hgt n) ms q.first m hh hq.lt hfm hm1 hm2 w (Rd.ro hB w hw) (Rd.ro hM w hw)) ?_)
  rintro v L' ⟨Ol, cl, Or, cr, rfl, rfl⟩
  refine sbk (gw ?_)
  refine D.nN 12 rfl (OpV.alloc zT (fun b14 => (sbk ?_)))
  refine D.oN 13 rfl (OpV.storeV0 (v := .agg #[.slice Ol (zaq q.first (hgt n)).length cl, .slice Or (zan (q.first + m - 1) (hgt n)).length cr]) rfl rfl (by exact ce43) (by rfl) (by rfl) (sbk ?_))
  refine gw ?_
  refine D.fi (gw ?_)
  refine dw ([], [17]) (gw ?_)
  refine D.c0 4 rfl J80 (fun w hw => zbc E tb mb (hgt n) w (Rd.ro hB w hw)) (gw ?_)
  refine D.qY 6 rfl (Qt.load rfl (Ld.one (v := .int .u64 (q.first : Int)) (Has.at 7 rfl) oT (q.k3))) (gw ?_)
  refine D.qY 8 rfl (Qt.load rfl (Ld.all (vs := [.slice Ol (zaq q.first (hgt n)).length cl, .slice Or (zan (q.first + m - 1) (hgt n)).length cr]) hz0 rT ce43)) ?_
  refine D.qY 9 rfl (Qt.build2 (a := .slice O2 xs.length d2) (b := .agg #[.slice Ol (zaq q.first (hgt n)).length cl, .slice Or (zan (q.first + m - 1) (hgt n)).length cr]) rfl rfl (bld46 _ _ _ _ _ _ _ _ _)) (gw ?_)
  refine D.qY 12 rfl (Qt.load rfl (Ld.one (v := .slice p.P p.pa.length p.p) (Has.at 6 rfl) oT (p.k27))) (gw ?_)
  refine D.qY 14 rfl (Qt.load rfl (Ld.one (v := .slice p.Q p.pb.length p.q) (Has.at 6 rfl) oT (p.k28))) ?_
  refine D.qY 15 rfl (Qt.build2 (a := .slice p.P p.pa.length p.p) (b := .slice p.Q p.pb.length p.q) rfl rfl (bld43 _ _ _ _ _ _)) ?_
  refine D.qY 16 rfl (Qt.build2 (a := .slice O1 xs.length d1) (b := .agg #[.slice p.P p.pa.length p.p, .slice p.Q p.pb.length p.q]) rfl rfl (bld46 _ _ _ _ _ _ _ _ _)) ?_
  refine D.nN 17 rfl (OpV.con (Pre := []) (R := _) (⟨_, func17, by kernel_rfl, rfl⟩ : zae prog 17) rfl pr (fun w hw => (by have k := zkf (hgt n : Int) q.first hq.lt O2 d2 (xs.map (fun x => getT E ms (0, x))) Ol cl ((zaq q.first (hgt n)).map (fun a => getT E ms a)) Or cr ((zan (q.first + m - 1) (hgt n)).map (fun a => getT E ms a)) O1 d1 (za4 xs p.its xs.length) p.P p.p p.pa p.Q p.q p.pb (by rw [List.length_map]; exact (zaL (hw.ok (List.mem_of_getElem? (i := 3) rfl))).1) (zaL (hw.ok (List.mem_of_getElem? (i := 3) rfl))).2.1 (by rw [List.length_map]; exact (zaL (hw.ok (List.mem_of_getElem? (i := 1) rfl))).1) (by rw [List.length_map]; exact (zaL (hw.ok (List.mem_of_getElem? (i := 2) rfl))).1) (by rw [za6]; exact (zaL (hw.ok (List.mem_of_getElem? (i := 4) rfl))).1) (zaL (hw.ok (List.mem_of_getElem? (i := 4) rfl))).2.1 hp.capp hp.capq w (Rd.own (Rd.at 3 rfl) w hw) (Rd.own (Rd.at 1 rfl) w hw) (Rd.own (Rd.at 2 rfl) w hw) (Rd.own (Rd.at 4 rfl) w hw) (Rd.ro hp.rop w hw) (Rd.ro hp.roq w hw) (hT.at hw); simp only [List.length_map, za6] at k; exact (by simp only [List.length_map, za6]; exact k) : Calls prog 17 #[.int .i64 (hgt n : Int), .int .u64 (q.first : Int), .agg #[.slice O2 xs.length d2, .slice Ol (zaq q.first (hgt n)).length cl, .slice Or (zan (q.first + m - 1) (hgt n)).length cr], .agg #[.slice O1 xs.length d1, .slice p.P p.pa.length p.p, .slice p.Q p.pb.length p.q]] w (Post w [] fun v L => PxQ 114 (if (xs.map (fun x => getT E ms (0, x))).length = (za4 xs p.its xs.length).length then zbl (zbY (hgt n : Int) q.first (xs.map (fun x => getT E ms (0, x))) ((zaq q.first (hgt n)).map (fun a => getT E ms a)) ((zan (q.first + m - 1) (hgt n)).map (fun a => getT E ms a))) (zbY (hgt n : Int) q.first (za4 xs p.its xs.length) p.pa p.pb) else []) v L))) ?_)
  rintro v L' ⟨O4, d4, pp, Ls, rfl, rfl, e1, e2, e3⟩
  refine sbk (gw ?_)
  refine D.fi (gw ?_)
  refine S.draw ([8], [4, 7]) mixed (sd (sk (sk (sk (sk (sk (sk (sk (sk (sk sn0)))))))))) (gw ?_)
  refine D.qY 6 rfl (Qt.load rfl (Ld.one (v := .slice p.I p.its.length p.i) (Has.at 8 rfl) oT (p.k3))) ?_
  refine D.nZ 4 rfl J29 (fun w hw => zcm qb n sm tb Y X x xs (by have := hi.2.1; omega) w (Rd.ro hQ w hw) (Rd.ro hSm w hw) (Rd.own (Rd.at 7 rfl) w hw)) ?_
  rintro v L' ⟨O7, d7, rfl, rfl⟩
  refine D.nZ 7 rfl J9 (fun w hw => (by have k := zey X x xs (by have := hi.2.1; omega) O7 d7 (xs.map (itS Y)) p.I p.i p.its w hlow (Rd.own (Rd.at 8 rfl) w hw) (Rd.own (Rd.at 0 rfl) w hw) (Rd.ro hp.roi w hw); simp only [List.length_map] at k; exact k : Calls prog 9 #[.slice X xs.length x, .slice O7 xs.length d7, .slice p.I p.its.length p.i] w (Post w [] fun v L => PxQ 114 (zbl (zbA xs (xs.map (itS Y))) (zbA xs p.its)) v L))) ?_
  rintro v L' ⟨O8, d8, qq, Ls2, rfl, rfl, f1, f2, f3⟩
  refine D.oS 8 rfl (OpV.app3 (bytes := 48) (news := qq.flatMap pxL) uT elem114 rfl rfl (Has.own hz0) (zqb qq) (zqa qq) (by simp only [maxLen]; omega) ow (fun O9 d9 => (sbk ?_)))
  refine gw ?_
  refine D.fi ?_
  refine TC.ret (fin1 (Sub.trans (sk (sk (sk (sd (sd (sd (sd (sd (sd (sd (sd (sd (sd sn0))))))))))))) (Sub.trans (sk (Sub.trans (sk (Sub.trans (sk sr) (Sub.of_perm pm1))) (Sub.of_perm pm3))) (Sub.of_perm pm3))) ?_)
  exact ⟨_, _, pp, qq, Ls, Ls2, rfl, rfl, e1, f1, by have a1 := congrArg List.length e1; have a2 := congrArg List.length f1; rw [List.length_map] at a1 a2; have b1 := zj3 (z := (hgt n : Int)) (f := q.first) (xs.map (fun x => getT E ms (0, x))) ((zaq q.first (hgt n)).map (fun a => getT E ms a)) ((zan (q.first + m - 1) (hgt n)).map (fun a => getT E ms a)) (za4 xs p.its xs.length) p.pa p.pb; have b2 := zfv hi.2.1 (xs.map (itS Y)) p.its; omega, e3, f3⟩
 ·refine (OpV.alloc zT (fun b14 => (sbk ?_)))
  refine D.nZ 8 rfl J85 (fun w hw => zjX E tb mb (hgt n) ms q.first m hh hq.lt hfm hm1 hm2 w (Rd.ro hB w hw) (Rd.ro hM w hw)) ?_
  rintro v L' ⟨Ol, cl, Or, cr, rfl, rfl⟩
  refine gw ?_
  refine D.oN 13 rfl (OpV.storeV2 (v := .agg #[.slice Ol (zaq q.first (hgt n)).length cl, .slice Or (zan (q.first + m - 1) (hgt n)).length cr]) rfl rfl (by exact ce43) (by rfl) (by rfl) (sbk ?_))
  refine gw ?_
  refine D.fi (gw ?_)
  refine dw ([], [17]) (gw ?_)
  refine D.c0 4 rfl J80 (fun w hw => zbc E tb mb (hgt n) w (Rd.ro hB w hw)) (gw ?_)
  refine D.qY 6 rfl (Qt.load rfl (Ld.one (v := .int .u64 (q.first : Int)) (Has.at 7 rfl) oT (q.k3))) (gw ?_)
  refine D.qY 8 rfl (Qt.load rfl (Ld.all (vs := [.slice Ol (zaq q.first (hgt n)).length cl, .slice Or (zan (q.first + m - 1) (hgt n)).length cr]) hz2 rT ce43)) ?_
  refine D.qY 9 rfl (Qt.build2 (a := .slice O2 xs.length d2) (b := .agg #[.slice Ol (zaq q.first (hgt n)).length cl, .slice Or (zan (q.first + m - 1) (hgt n)).length cr]) rfl rfl (bld46 _ _ _ _ _ _ _ _ _)) (gw ?_)
  refine D.qY 12 rfl (Qt.load rfl (Ld.one (v := .slice p.P p.pa.length p.p) (Has.at 6 rfl) oT (p.k27))) (gw ?_)
  refine D.qY 14 rfl (Qt.load rfl (Ld.one (v := .slice p.Q p.pb.length p.q) (Has.at 6 rfl) oT (p.k28))) ?_
  refine D.qY 15 rfl (Qt.build2 (a := .slice p.P p.pa.length p.p) (b := .slice p.Q p.pb.length p.q) rfl rfl (bld43 _ _ _ _ _ _)) ?_
  refine D.qY 16 rfl (Qt.build2 (a := .slice O1 xs.length d1) (b := .agg #[.slice p.P p.pa.length p.p, .slice p.Q p.pb.length p.q]) rfl rfl (bld46 _ _ _ _ _ _ _ _ _)) ?_
  refine D.nN 17 rfl (OpV.con (Pre := []) (R := _) (⟨_, func17, by kernel_rfl, rfl⟩ : zae prog 17) rfl pr (fun w hw => (by have k := zkf (hgt n : Int) q.first hq.lt O2 d2 (xs.map (fun x => getT E ms (0, x))) Ol cl ((zaq q.first (hgt n)).map (fun a => getT E ms a)) Or cr ((zan (q.first + m - 1) (hgt n)).map (fun a => getT E ms a)) O1 d1 (za4 xs p.its xs.length) p.P p.p p.pa p.Q p.q p.pb (by rw [List.length_map]; exact (zaL (hw.ok (List.mem_of_getElem? (i := 3) rfl))).1) (zaL (hw.ok (List.mem_of_getElem? (i := 3) rfl))).2.1 (by rw [List.length_map]; exact (zaL (hw.ok (List.mem_of_getElem? (i := 0) rfl))).1) (by rw [List.length_map]; exact (zaL (hw.ok (List.mem_of_getElem? (i := 1) rfl))).1) (by rw [za6]; exact (zaL (hw.ok (List.mem_of_getElem? (i := 4) rfl))).1) (zaL (hw.ok (List.mem_of_getElem? (i := 4) rfl))).2.1 hp.capp hp.capq w (Rd.own (Rd.at 3 rfl) w hw) (Rd.own (Rd.at 0 rfl) w hw) (Rd.own (Rd.at 1 rfl) w hw) (Rd.own (Rd.at 4 rfl) w hw) (Rd.ro hp.rop w hw) (Rd.ro hp.roq w hw) (hT.at hw); simp only [List.length_map, za6] at k; exact (by simp only [List.length_map, za6]; exact k) : Calls prog 17 #[.int .i64 (hgt n : Int), .int .u64 (q.first : Int), .agg #[.slice O2 xs.length d2, .slice Ol (zaq q.first (hgt n)).length cl, .slice Or (zan (q.first + m - 1) (hgt n)).length cr], .agg #[.slice O1 xs.length d1, .slice p.P p.pa.length p.p, .slice p.Q p.pb.length p.q]] w (Post w [] fun v L => PxQ 114 (if (xs.map (fun x => getT E ms (0, x))).length = (za4 xs p.its xs.length).length then zbl (zbY (hgt n : Int) q.first (xs.map (fun x => getT E ms (0, x))) ((zaq q.first (hgt n)).map (fun a => getT E ms a)) ((zan (q.first + m - 1) (hgt n)).map (fun a => getT E ms a))) (zbY (hgt n : Int) q.first (za4 xs p.its xs.length) p.pa p.pb) else []) v L))) ?_)
  rintro v L' ⟨O4, d4, pp, Ls, rfl, rfl, e1, e2, e3⟩
  refine sbk (gw ?_)
  refine D.fi (gw ?_)
  refine S.draw ([8], [4, 7]) mixed (sd (sk (sk (sk (sk (sk (sk (sk (sk (sk sn0)))))))))) (gw ?_)
  refine D.qY 6 rfl (Qt.load rfl (Ld.one (v := .slice p.I p.its.length p.i) (Has.at 8 rfl) oT (p.k3))) ?_
  refine D.nZ 4 rfl J29 (fun w hw => zcm qb n sm tb Y X x xs (by have := hi.2.1; omega) w (Rd.ro hQ w hw) (Rd.ro hSm w hw) (Rd.own (Rd.at 7 rfl) w hw)) ?_
  rintro v L' ⟨O7, d7, rfl, rfl⟩
  refine D.nZ 7 rfl J9 (fun w hw => (by have k := zey X x xs (by have := hi.2.1; omega) O7 d7 (xs.map (itS Y)) p.I p.i p.its w hlow (Rd.own (Rd.at 8 rfl) w hw) (Rd.own (Rd.at 0 rfl) w hw) (Rd.ro hp.roi w hw); simp only [List.length_map] at k; exact k : Calls prog 9 #[.slice X xs.length x, .slice O7 xs.length d7, .slice p.I p.its.length p.i] w (Post w [] fun v L => PxQ 114 (zbl (zbA xs (xs.map (itS Y))) (zbA xs p.its)) v L))) ?_
  rintro v L' ⟨O8, d8, qq, Ls2, rfl, rfl, f1, f2, f3⟩
  refine D.oS 8 rfl (OpV.app3 (bytes := 48) (news := qq.flatMap pxL) uT elem114 rfl rfl (Has.own hz0) (zqb qq) (zqa qq) (by simp only [maxLen]; omega) ow (fun O9 d9 => (sbk ?_)))
  refine gw ?_
  refine D.fi ?_
  refine TC.ret (fin1 (Sub.trans (sk (sk (sk (sd (sd (sd (sd (sd (sd (sd (sd (sd (sd sn0))))))))))))) (Sub.trans (sk (Sub.trans (sk (Sub.trans (sk sr) (Sub.of_perm pm1))) (Sub.of_perm pm3))) (Sub.of_perm pm3))) ?_)
  exact ⟨_, _, pp, qq, Ls, Ls2, rfl, rfl, e1, f1, by have a1 := congrArg List.length e1; have a2 := congrArg List.length f1; rw [List.length_map] at a1 a2; have b1 := zj3 (z := (hgt n : Int)) (f := q.first) (xs.map (fun x => getT E ms (0, x))) ((zaq q.first (hgt n)).map (fun a => getT E ms a)) ((zan (q.first + m - 1) (hgt n)).map (fun a => getT E ms a)) (za4 xs p.its xs.length) p.pa p.pb; have b2 := zfv hi.2.1 (xs.map (itS Y)) p.its; omega, e3, f3⟩
theorem J106 : zae prog 106 := ⟨_, func106, by kernel_rfl, rfl⟩
theorem J107 : zae prog 107 := ⟨_, func107, by kernel_rfl, rfl⟩
theorem J108 : zae prog 108 := ⟨_, func108, by kernel_rfl, rfl⟩
theorem J109 : zae prog 109 := ⟨_, func109, by kernel_rfl, rfl⟩
theorem bld194 (A : OAd) (n c : Nat) (B : OAd) (m d : Nat) (Z : OAd) (k e : Nat) (w : World) : (Instr.build 194 #[(0, .slice A n c), (1, .slice B m d), (2, .slice Z k e)]).run prog w = .ok (.agg #[.slice A n c, .slice B m d, .slice Z k e]) w := by kernel_rfl
theorem ziT (E : Nat → H32) (hEm : ∀ w, Tabs 3 1 w [] → Calls prog 55 #[] w (Ret w (.agg (hcs (zbd E)).toArray))) (hE0 : E 0 = shaH [0]) (root : H32) (h : Nat) (hh : h ≤ 32) (A : OAd) (c : Nat) (xs : List Nat) (hc : xs.length ≤ c) (q : ReqA) (p : RepA) (x : OrdA) (hl : p.its.length = xs.length) (hn : p.its.length ≤ 65536) (hq : q.first < 18446744073709551616) (w0 : World) (hlow : ∀ y ∈ xs, y < 18446744073709551616) (hR : Ro w0 [] (SlA A (u64s xs))) (hp : p.Ok w0) (hT : Tabs 3 1 w0 []) :
  Calls prog 42 #[hv root, .int .i64 (h : Int), .slice A xs.length c, .agg (askL q p x).toArray] w0 (Post w0 [] fun v L => ∃ r : Bool, v = .bool r ∧ L = [] ∧ (r = true ↔ zfK root h q.kind q.first xs p.its p.pa p.pb)) := by
 refine co 66 [.tmp 8] func42 ?_
 refine gw ?_
 intro b4
 refine gw ?_
 intro b7
 refine gw ?_
 refine S.r (Qt.load rfl (Ld.one (v := .slice p.I p.its.length p.i) hz0 oT (zbz q p x 3 _ p.k3))) (gw ?_)
 refine S.r (Qt.load rfl (Ld.one (v := .slice p.I p.its.length p.i) hz0 oT (zbz q p x 3 _ p.k3))) (gw ?_)
 refine S.r (Qt.as (Qt.minN rfl rfl) (show Value.int .i64 ((min p.its.length xs.length : Nat) : Int) = .int .i64 (p.its.length : Int) by rw [hl, Nat.min_self])) ?_
 refine S.r (Qt.slice_hi uT cT rfl rfl hp.capi) ?_
 by_cases hi1 : inR xs p.its p.its.length
 ·refine S.cn J13 (fun w hw => zhX E hEm hE0 A c xs p.I p.i p.its ow hn hi1 hl.symm w hlow (Rd.ro hR w hw) (Rd.ro hp.roi w hw) (hT.at hw)) ?_
  rintro v L' ⟨U, u, rfl, rfl⟩
  refine gw ?_
  refine S.qg rfl rfl rfl (Qt.load rfl (Ld.one (v := .slice p.I p.its.length p.i) hz1 oT (zbz q p x 3 _ p.k3))) (gw ?_)
  refine S.qg rfl rfl rfl (Qt.dF (Qt.ne rfl rfl) (fun e => e hl.symm)) (gw ?_)
  refine S.r (Qt.load rfl (Ld.one (v := .int .i64 q.kind) hz1 oT (ziD q p x q.k1))) ?_
  refine S.dec rfl rfl (Qt.eqi rfl rfl) (fun h41 => gw ?_) (fun h41 => gw ?_)
  ·refine S.r (Qt.load rfl (Ld.one (v := .slice p.Q p.pb.length p.q) hz1 oT (zbz q p x 28 _ p.k28))) ?_
   by_cases hck : (chkR root (h : Int) xs (za4 xs p.its p.its.length) p.pb) = 0
   ·refine S.c0 J105 (fun w hw => (by have k := ze7 root (h : Int) A c xs hc U u (za4 xs p.its p.its.length) p.Q p.q p.pb (by rw [za6]; exact (zaL (hw.ok (List.mem_of_getElem? (i := 0) rfl))).1) hp.capq w hlow (Rd.ro hR w hw) (Rd.own (Rd.at 0 rfl) w hw) (Rd.ro hp.roq w hw) (hT.at hw); rw [hck] at k; simp only [za6] at k; exact k : Calls prog 105 #[hv root, .int .i64 (h : Int), .slice A xs.length c, .slice U p.its.length u, .slice p.Q p.pb.length p.q] w (Ret w .nilIface))) (gw ?_)
    refine TC.ret (fR ?_)
    exact ⟨true, rfl, rfl, fun _ => ⟨hl, hi1, by rw [if_pos h41]; exact hck⟩, fun _ => rfl⟩
   ·refine S.c0 J105 (fun w hw => (by have k := ze7 root (h : Int) A c xs hc U u (za4 xs p.its p.its.length) p.Q p.q p.pb (by rw [za6]; exact (zaL (hw.ok (List.mem_of_getElem? (i := 0) rfl))).1) hp.capq w hlow (Rd.ro hR w hw) (Rd.own (Rd.at 0 rfl) w hw) (Rd.ro hp.roq w hw) (hT.at hw); rw [errv, if_neg hck] at k; simp only [za6] at k; exact k : Calls prog 105 #[hv root, .int .i64 (h : Int), .slice A xs.length c, .slice U p.its.length u, .slice p.Q p.pb.length p.q] w (Ret w (.iface 73 (.int .i64 (((chkR root (h : Int) xs (za4 xs p.its p.its.length) p.pb) : Nat) : Int)))))) (gw ?_)
    refine TC.ret (fR ?_)
    exact ⟨false, rfl, rfl, (fun e => by cases e), fun h => absurd (by have k := h.2.2; rwa [if_pos h41] at k) hck⟩
  ·refine S.r (Qt.load rfl (Ld.one (v := .int .u64 (q.first : Int)) hz1 oT (ziD q p x q.k3))) (gw ?_)
   refine S.r (Qt.load rfl (Ld.one (v := .slice p.P p.pa.length p.p) hz1 oT (zbz q p x 27 _ p.k27))) (gw ?_)
   refine S.r (Qt.load rfl (Ld.one (v := .slice p.Q p.pb.length p.q) hz1 oT (zbz q p x 28 _ p.k28))) ?_
   refine S.r (Qt.build2 (a := .slice p.P p.pa.length p.p) (b := .slice p.Q p.pb.length p.q) rfl rfl (bld43 _ _ _ _ _ _)) ?_
   by_cases hck : (chkS root (h : Int) q.first (za4 xs p.its p.its.length) p.pa p.pb) = 0
   ·refine S.c0 J106 (fun w hw => (by have k := zr1 root (h : Int) q.first hq U u (za4 xs p.its p.its.length) p.P p.p p.pa p.Q p.q p.pb hp.capp hp.capq w (Rd.own (Rd.at 0 rfl) w hw) (Rd.ro hp.rop w hw) (Rd.ro hp.roq w hw) (hT.at hw); rw [hck] at k; simp only [za6] at k; exact k : Calls prog 106 #[hv root, .int .i64 (h : Int), .int .u64 (q.first : Int), .slice U p.its.length u, .agg #[.slice p.P p.pa.length p.p, .slice p.Q p.pb.length p.q]] w (Ret w .nilIface))) (gw ?_)
    refine TC.ret (fR ?_)
    exact ⟨true, rfl, rfl, fun _ => ⟨hl, hi1, by rw [if_neg h41]; exact hck⟩, fun _ => rfl⟩
   ·refine S.c0 J106 (fun w hw => (by have k := zr1 root (h : Int) q.first hq U u (za4 xs p.its p.its.length) p.P p.p p.pa p.Q p.q p.pb hp.capp hp.capq w (Rd.own (Rd.at 0 rfl) w hw) (Rd.ro hp.rop w hw) (Rd.ro hp.roq w hw) (hT.at hw); rw [errv, if_neg hck] at k; simp only [za6] at k; exact k : Calls prog 106 #[hv root, .int .i64 (h : Int), .int .u64 (q.first : Int), .slice U p.its.length u, .agg #[.slice p.P p.pa.length p.p, .slice p.Q p.pb.length p.q]] w (Ret w (.iface 73 (.int .i64 (((chkS root (h : Int) q.first (za4 xs p.its p.its.length) p.pa p.pb) : Nat) : Int)))))) (gw ?_)
    refine TC.ret (fR ?_)
    exact ⟨false, rfl, rfl, (fun e => by cases e), fun h => absurd (by have k := h.2.2; rwa [if_neg h41] at k) hck⟩
 ·refine S.cn J13 (fun w hw => zhY E hEm hE0 A c xs p.I p.i p.its ow hn hi1  w hlow (Rd.ro hR w hw) (Rd.ro hp.roi w hw) (hT.at hw)) ?_
  rintro v L' ⟨rfl, rfl⟩
  refine gw ?_
  refine TC.ret (fR ?_)
  exact ⟨false, rfl, rfl, (fun e => by cases e), fun h => absurd h.2.1 hi1⟩
theorem ziU (E : Nat → H32) (hEm : ∀ w, Tabs 3 1 w [] → Calls prog 55 #[] w (Ret w (.agg (hcs (zbd E)).toArray))) (hE0 : E 0 = shaH [0]) (root : H32) (h : Nat) (hh : h ≤ 32) (A : OAd) (c : Nat) (xs : List Nat) (hc : xs.length ≤ c) (q : ReqA) (p : RepA) (x : OrdA) (hl : p.its.length ≠ xs.length) (hn : p.its.length ≤ 65536) (w0 : World) (hlow : ∀ y ∈ xs, y < 18446744073709551616) (hR : Ro w0 [] (SlA A (u64s xs))) (hp : p.Ok w0) (hT : Tabs 3 1 w0 []) :
  Calls prog 42 #[hv root, .int .i64 (h : Int), .slice A xs.length c, .agg (askL q p x).toArray] w0 (Post w0 [] fun v L => v = .bool false ∧ L = []) := by
 refine co 66 [.tmp 8] func42 ?_
 have te : (p.its.take (min p.its.length xs.length)).length = (min p.its.length xs.length) := by rw [List.length_take]; omega
 have hpi := hp.capi
 refine gw ?_
 intro b4
 refine gw ?_
 intro b7
 refine gw ?_
 refine S.r (Qt.load rfl (Ld.one (v := .slice p.I p.its.length p.i) hz0 oT (zbz q p x 3 _ p.k3))) (gw ?_)
 refine S.r (Qt.load rfl (Ld.one (v := .slice p.I p.its.length p.i) hz0 oT (zbz q p x 3 _ p.k3))) (gw ?_)
 refine S.r (Qt.minN rfl rfl) ?_
 refine S.r (Qt.slice_hi uT cT rfl rfl ow) ?_
 by_cases hi1 : inR xs (p.its.take (min p.its.length xs.length)) (p.its.take (min p.its.length xs.length)).length
 ·by_cases hl1 : xs.length = (p.its.take (min p.its.length xs.length)).length
  ·refine S.cn J13 (fun w hw => (by have k := zhX E hEm hE0 A c xs p.I p.i (p.its.take (min p.its.length xs.length)) ow ow hi1 hl1 w hlow (Rd.ro hR w hw) (by have h := (Rd.take (Rd.ro hp.roi) ((min p.its.length xs.length) * 50)) w hw; rwa [zfm] at h) (hT.at hw); rw [te] at k; exact k : Calls prog 13 #[.slice A xs.length c, .slice p.I (min p.its.length xs.length) p.i] w (Post w [] fun v L => ∃ O d, v = .tuple #[.slice O (min p.its.length xs.length) d, .bool true] ∧ L = [OwnA 49 32 O (min p.its.length xs.length) d (hcs (za4 xs (p.its.take (min p.its.length xs.length)) (min p.its.length xs.length)))]))) ?_
   rintro v L' ⟨U, u, rfl, rfl⟩
   refine gw ?_
   refine S.qg rfl rfl rfl (Qt.load rfl (Ld.one (v := .slice p.I p.its.length p.i) hz1 oT (zbz q p x 3 _ p.k3))) (gw ?_)
   refine S.qg rfl rfl rfl (Qt.dT (Qt.ne rfl rfl) (fun e => hl e.symm)) (gw ?_)
   refine TC.ret (fR ?_)
   exact ⟨rfl, rfl⟩
  ·refine S.cn J13 (fun w hw => (by have k := znd E hEm hE0 A c xs p.I p.i (p.its.take (min p.its.length xs.length)) ow ow hi1 hl1 w hlow (Rd.ro hR w hw) (by have h := (Rd.take (Rd.ro hp.roi) ((min p.its.length xs.length) * 50)) w hw; rwa [zfm] at h) (hT.at hw); rw [te] at k; exact k : Calls prog 13 #[.slice A xs.length c, .slice p.I (min p.its.length xs.length) p.i] w (Post w [] fun v L => ∃ O d, v = .tuple #[.slice O (min p.its.length xs.length) d, .bool false] ∧ L = [OwnA 49 32 O (min p.its.length xs.length) d (hcs (za4 xs (p.its.take (min p.its.length xs.length)) (min p.its.length xs.length)))]))) ?_
   rintro v L' ⟨U, u, rfl, rfl⟩
   refine gw ?_
   refine TC.ret (fR ?_)
   exact ⟨rfl, rfl⟩
 ·refine S.cn J13 (fun w hw => (by have k := zhY E hEm hE0 A c xs p.I p.i (p.its.take (min p.its.length xs.length)) ow ow hi1 w hlow (Rd.ro hR w hw) (by have h := (Rd.take (Rd.ro hp.roi) ((min p.its.length xs.length) * 50)) w hw; rwa [zfm] at h) (hT.at hw); rw [te] at k; exact k : Calls prog 13 #[.slice A xs.length c, .slice p.I (min p.its.length xs.length) p.i] w (Post w [] fun v L => v = .tuple #[.slice none 0 0, .bool false] ∧ L = []))) ?_
  rintro v L' ⟨rfl, rfl⟩
  refine gw ?_
  refine TC.ret (fR ?_)
  exact ⟨rfl, rfl⟩
theorem zki (E : Nat → H32) (hEm : ∀ w, Tabs 3 1 w [] → Calls prog 55 #[] w (Ret w (.agg (hcs (zbd E)).toArray))) (hE0 : E 0 = shaH [0]) (root : H32) (h : Nat) (hh : h ≤ 32) (A : OAd) (c : Nat) (xs : List Nat) (hc : xs.length ≤ c) (q : ReqA) (p : RepA) (x : OrdA) (hn : p.its.length ≤ 65536) (hq : q.first < 18446744073709551616) (w0 : World) (hlow : ∀ y ∈ xs, y < 18446744073709551616) (hR : Ro w0 [] (SlA A (u64s xs))) (hp : p.Ok w0) (hT : Tabs 3 1 w0 []) : Calls prog 42 #[hv root, .int .i64 (h : Int), .slice A xs.length c, .agg (askL q p x).toArray] w0 (Post w0 [] fun v L => ∃ r : Bool, v = .bool r ∧ L = [] ∧ (r = true ↔ zfK root h q.kind q.first xs p.its p.pa p.pb)) := by
 by_cases hl : p.its.length = xs.length
 ·exact ziT E hEm hE0 root h hh A c xs hc q p x hl hn hq w0 hlow hR hp hT
 ·exact (ziU E hEm hE0 root h hh A c xs hc q p x hl hn w0 hlow hR hp hT).mono fun e w ⟨v, L, h1, h2, h3, h4⟩ => ⟨v, L, h1, h2, false, h3, h4, (fun e => by cases e), fun h => absurd h.1 hl⟩
theorem zkj (E : Nat → H32) (hEm : ∀ w, Tabs 3 1 w [] → Calls prog 55 #[] w (Ret w (.agg (hcs (zbd E)).toArray))) (hE0 : E 0 = shaH [0]) (root : H32) (g : Nat) (hh : g ≤ 32) (A : OAd) (c : Nat) (xs : List Nat) (hc : xs.length ≤ c) (q : ReqA) (p : RepA) (x : OrdA) (hn : p.its.length ≤ 65536) (hq : q.first < 18446744073709551616) (h : zfK root g q.kind q.first xs p.its p.pa p.pb) (w0 : World) (hlow : ∀ y ∈ xs, y < 18446744073709551616) (hR : Ro w0 [] (SlA A (u64s xs))) (hp : p.Ok w0) (hT : Tabs 3 1 w0 []) : Calls prog 42 #[hv root, .int .i64 (g : Int), .slice A xs.length c, .agg (askL q p x).toArray] w0 (Ret w0 (.bool true)) :=
 Calls.ret ((zki E hEm hE0 root _ hh A c xs hc q p x hn hq w0 hlow hR hp hT).mono fun e w ⟨v, L, h1, h2, r, h3, h4, hr⟩ => ⟨v, L, h1, h2, by rw [h3, show r = true from hr.2 h], h4⟩)
theorem zkk (E : Nat → H32) (hEm : ∀ w, Tabs 3 1 w [] → Calls prog 55 #[] w (Ret w (.agg (hcs (zbd E)).toArray))) (hE0 : E 0 = shaH [0]) (root : H32) (g : Nat) (hh : g ≤ 32) (A : OAd) (c : Nat) (xs : List Nat) (hc : xs.length ≤ c) (q : ReqA) (p : RepA) (x : OrdA) (hn : p.its.length ≤ 65536) (hq : q.first < 18446744073709551616) (h : ¬ zfK root g q.kind q.first xs p.its p.pa p.pb) (w0 : World) (hlow : ∀ y ∈ xs, y < 18446744073709551616) (hR : Ro w0 [] (SlA A (u64s xs))) (hp : p.Ok w0) (hT : Tabs 3 1 w0 []) : Calls prog 42 #[hv root, .int .i64 (g : Int), .slice A xs.length c, .agg (askL q p x).toArray] w0 (Ret w0 (.bool false)) :=
 Calls.ret ((zki E hEm hE0 root _ hh A c xs hc q p x hn hq w0 hlow hR hp hT).mono fun e w ⟨v, L, h1, h2, r, h3, h4, hr⟩ => ⟨v, L, h1, h2, by rw [h3, show r = false from Bool.eq_false_iff.2 (fun e => h (hr.1 e))], h4⟩)
theorem zfL (E : Nat → H32) (hEm : ∀ w, Tabs 3 1 w [] → Calls prog 55 #[] w (Ret w (.agg (hcs (zbd E)).toArray))) (hE0 : E 0 = shaH [0]) (root : H32) (n : Nat) (hon : okN n) (q : ReqA) (p : RepA) (x : OrdA) (hss : x.o.ss.length ≤ 65536) (hxx : x.o.xs.length ≤ 65536) (w0 : World) (hx : x.Ok w0) (hp : p.Ok w0) (hT : Tabs 3 1 w0 []) :
    Calls prog 43 #[hv root, .int .i64 (hgt n : Int), .int .u64 (n : Int), .agg (askL q p x).toArray] w0 (Post w0 [] fun v L => ∃ hh, ∃ r : Bool, v = .tuple #[hv hh, .bool r] ∧ L = [] ∧ (r = true → zr0 E root n x.o p.pa p.pb hh)) := by
  refine Calls.of (L := []) (n := 100) (rs := [.cell 8 49, .tmp 9]) func43 rfl rfl rfl (Nat.le_of_ble_eq_true rfl) (Sat.nil _) ?_
  refine TC.seq ?_
  refine TC.region ?_
  refine S.o (OpV.box cw (fun b4 => ?_))
  refine S.o (OpV.box (v := .agg (askL q p x).toArray) rfl (fun b7 => ?_))
  refine S.o (OpV.alloc zT (fun b8 => ?_))
  refine S.as ?_
  refine S.nil ?_
  refine TC.seq ?_
  refine TC.region ?_
  refine S.r (Qt.field uT rfl ce58 rfl) ?_
  refine S.r (Qt.load rfl (Ld.row (vs := ordL x) hz1 rT ce58 (zfn q p x))) ?_
  refine S.o (OpV.alloc zT (fun b10 => ?_))
  refine S.opN rfl (OpV.storeV0 (v := .agg (ordL x).toArray) rfl rfl (by exact ce58) (zf4 x) (by rfl) ?_)
  refine S.nil ?_
  refine TC.seq ?_
  refine TC.block ?_
  refine TC.seq ?_
  refine TC.region ?_
  refine S.r (Qt.load rfl (Ld.all (vs := ordL x) hz0 rT ce58)) ?_
  refine S.mv ?_
  by_cases hf : zce x.o n
  · refine S.o (OpV.con0 J93 rfl (fun w hw => (by have k := zdq x.A x.c x.B x.d x.o hss hxx n w hx.low (Rd.ro hx.ro w hw) (Rd.ro hx.rs w hw); rw [decide_eq_true hf] at k; exact k : Calls prog 93 #[.agg (ordL x).toArray, .int .u64 (n : Int)] w (Ret w (.bool true)))) ?_)
    refine S.r (Qt.not_t rfl) ?_
    refine S.as ?_
    refine S.nil ?_
    refine S.if_f rfl ?_
    refine TC.seq ?_
    refine TC.region ?_
    refine S.r (Qt.field uT rfl ce3 rfl) ?_
    refine S.r (Qt.load rfl (Ld.one (v := .int .i64 x.o.kind) hz0 oT rfl)) ?_
    refine S.dec rfl rfl (Qt.nei rfl rfl) (fun h29 => ?_) (fun h29 => ?_)
    · refine S.as ?_
      refine S.nil ?_
      refine S.if_t rfl ?_
      refine TC.seq ?_
      refine TC.region ?_
      refine S.r (Qt.load rfl (Ld.all (vs := ordL x) hz0 rT ce58)) ?_
      refine S.o (OpV.con (Pre := []) (R := _) J101 rfl pr (fun w hw => zh6 E hEm hE0 x.A x.c x.B x.d x.o hss hxx hf.1 h29 w hx.low (Rd.ro hx.ro w hw) (Rd.ro hx.rs w hw) (hT.at hw)) ?_)
      rintro v L' ⟨O, q2, rfl, rfl⟩
      refine S.mv ?_
      refine S.r (Qt.extract rfl rfl) ?_
      refine S.r (Qt.extract rfl rfl) ?_
      refine S.as ?_
      refine S.as ?_
      refine S.nil ?_
      refine TC.seq ?_
      refine TC.seq ?_
      refine TC.region ?_
      refine S.mv ?_
      refine S.r (Qt.nenil_nil uT rfl) ?_
      refine S.nil ?_
      refine S.if_f rfl ?_
      refine TC.skip ?_
      refine TC.seq ?_
      refine TC.region ?_
      refine S.r (Qt.field uT rfl ce22 rfl) ?_
      refine S.r (Qt.load rfl (Ld.one (v := .slice x.A x.o.xs.length x.c) hz1 oT rfl)) ?_
      refine S.r (Qt.field uT rfl ce65 rfl) ?_
      refine S.r (Qt.field uT rfl ce33 rfl) ?_
      refine S.r (Qt.load rfl (Ld.one (v := .slice p.P p.pa.length p.p) hz3 oT (zbz q p x 27 _ p.k27))) ?_
      refine S.r (Qt.field uT rfl ce65 rfl) ?_
      refine S.r (Qt.field uT rfl ce33 rfl) ?_
      refine S.r (Qt.load rfl (Ld.one (v := .slice p.Q p.pb.length p.q) hz3 oT (zbz q p x 28 _ p.k28))) ?_
      refine S.r (Qt.build3 (a := .slice x.A x.o.xs.length x.c) (b := .slice p.P p.pa.length p.p) (c := .slice p.Q p.pb.length p.q) rfl rfl rfl (bld194 _ _ _ _ _ _ _ _ _)) ?_
      refine S.r (Qt.load rfl (Ld.hash1 (x := root) (Has.at 4 rfl) rT ce49)) ?_
      refine S.mv ?_
      refine S.mv ?_
      by_cases hck : (zcL root (hgt n : Int) x.o.xs p.pa p.pb ((List.range x.o.xs.length).map (zb8 x.o))).2 = 0
      · refine S.o (OpV.con0 J107 rfl (fun w hw => (by have k := zmn root (hgt n : Int) x.A x.c x.o.xs hx.cap p.P p.p p.pa p.Q p.q p.pb O q2 ((List.range x.o.xs.length).map (zb8 x.o)) hp.capp hp.capq (by rw [List.length_map, List.length_range]; exact (zaL (hw.ok (List.mem_of_getElem? (i := 0) rfl))).1) w hx.low (Rd.ro hx.ro w hw) (Rd.ro hp.rop w hw) (Rd.ro hp.roq w hw) (Rd.own (Rd.at 0 rfl) w hw) (hT.at hw); rw [hck] at k; (try simp only [List.length_map, List.length_range] at k); exact k : Calls prog 107 #[.agg #[.slice x.A x.o.xs.length x.c, .slice p.P p.pa.length p.p, .slice p.Q p.pb.length p.q], hv root, .int .i64 (hgt n : Int), .slice O x.o.xs.length q2] w (Ret w (.tuple #[hv (zcL root (hgt n : Int) x.o.xs p.pa p.pb ((List.range x.o.xs.length).map (zb8 x.o))).1, .nilIface])))) ?_)
        refine S.mv ?_
        refine S.r (Qt.extract rfl rfl) ?_
        refine S.r (Qt.extract rfl rfl) ?_
        refine S.o (OpV.alloc zT (fun b13 => ?_))
        refine S.opN rfl (OpV.storeV0 (v := hv ((zcL root (hgt n : Int) x.o.xs p.pa p.pb ((List.range x.o.xs.length).map (zb8 x.o))).1)) rfl rfl (zab ce49) (zai _) (zaf _) ?_)
        refine S.as ?_
        refine S.nil ?_
        refine TC.seq ?_
        refine S.draw ([3], []) mixed (sk (sk (sk (sd (sk (sk sn0)))))) ?_
        refine D.qY 0 rfl (Qt.load rfl (Ld.hash1 (x := (zcL root (hgt n : Int) x.o.xs p.pa p.pb ((List.range x.o.xs.length).map (zb8 x.o))).1) hz0 rT ce49)) ?_
        refine D.p 1 rfl (Qt.move cw) ?_
        refine D.p 2 rfl (Qt.eqnil_nil uT rfl) ?_
        refine D.opN (k := 3) (sk (sk (sk (sd (sk (sk sn0)))))) rfl (by kernel_rfl) (by kernel_rfl) rfl (OpV.storeV3 (v := hv ((zcL root (hgt n : Int) x.o.xs p.pa p.pb ((List.range x.o.xs.length).map (zb8 x.o))).1)) rfl rfl (zab ce49) (zai _) (zaf _) ⟨sk (sk (sk (sd (sk (sk sn0))))), ?_⟩)
        refine D.qY 4 rfl (Qt.assign cw) ?_
        refine D.done (sk (sk (sk (sd (sk (sk sn0)))))) (by kernel_rfl) ?_
        refine TC.ret ?_
        refine finQ.ret (RVs.cell rfl (Ld.all hz3 rT (zab ce49)) rv) sn ?_
        exact ⟨_, true, rfl, rfl, fun _ => ⟨hf, .inl ⟨h29, Prod.ext rfl hck⟩⟩⟩
      · refine S.o (OpV.con0 J107 rfl (fun w hw => (by have k := zmn root (hgt n : Int) x.A x.c x.o.xs hx.cap p.P p.p p.pa p.Q p.q p.pb O q2 ((List.range x.o.xs.length).map (zb8 x.o)) hp.capp hp.capq (by rw [List.length_map, List.length_range]; exact (zaL (hw.ok (List.mem_of_getElem? (i := 0) rfl))).1) w hx.low (Rd.ro hx.ro w hw) (Rd.ro hp.rop w hw) (Rd.ro hp.roq w hw) (Rd.own (Rd.at 0 rfl) w hw) (hT.at hw); rw [errv, if_neg hck] at k; (try simp only [List.length_map, List.length_range] at k); exact k : Calls prog 107 #[.agg #[.slice x.A x.o.xs.length x.c, .slice p.P p.pa.length p.p, .slice p.Q p.pb.length p.q], hv root, .int .i64 (hgt n : Int), .slice O x.o.xs.length q2] w (Ret w (.tuple #[hv (zcL root (hgt n : Int) x.o.xs p.pa p.pb ((List.range x.o.xs.length).map (zb8 x.o))).1, .iface 73 (.int .i64 (((zcL root (hgt n : Int) x.o.xs p.pa p.pb ((List.range x.o.xs.length).map (zb8 x.o))).2 : Nat) : Int))])))) ?_)
        refine S.mv ?_
        refine S.r (Qt.extract rfl rfl) ?_
        refine S.r (Qt.extract rfl rfl) ?_
        refine S.o (OpV.alloc zT (fun b13 => ?_))
        refine S.opN rfl (OpV.storeV0 (v := hv ((zcL root (hgt n : Int) x.o.xs p.pa p.pb ((List.range x.o.xs.length).map (zb8 x.o))).1)) rfl rfl (zab ce49) (zai _) (zaf _) ?_)
        refine S.as ?_
        refine S.nil ?_
        refine TC.seq ?_
        refine S.draw ([3], []) mixed (sk (sk (sk (sd (sk (sk sn0)))))) ?_
        refine D.qY 0 rfl (Qt.load rfl (Ld.hash1 (x := (zcL root (hgt n : Int) x.o.xs p.pa p.pb ((List.range x.o.xs.length).map (zb8 x.o))).1) hz0 rT ce49)) ?_
        refine D.p 1 rfl (Qt.move cw) ?_
        refine D.p 2 rfl (Qt.eqnil_iface uT rfl) ?_
        refine D.opN (k := 3) (sk (sk (sk (sd (sk (sk sn0)))))) rfl (by kernel_rfl) (by kernel_rfl) rfl (OpV.storeV3 (v := hv ((zcL root (hgt n : Int) x.o.xs p.pa p.pb ((List.range x.o.xs.length).map (zb8 x.o))).1)) rfl rfl (zab ce49) (zai _) (zaf _) ⟨sk (sk (sk (sd (sk (sk sn0))))), ?_⟩)
        refine D.qY 4 rfl (Qt.assign cw) ?_
        refine D.done (sk (sk (sk (sd (sk (sk sn0)))))) (by kernel_rfl) ?_
        refine TC.ret ?_
        refine finQ.ret (RVs.cell rfl (Ld.all hz3 rT (zab ce49)) rv) sn ?_
        exact ⟨_, false, rfl, rfl, fun e => by cases e⟩
    · refine S.as ?_
      refine S.nil ?_
      refine S.if_f rfl ?_
      refine TC.seq ?_
      refine TC.region ?_
      refine S.r (Qt.field uT rfl ce40 rfl) ?_
      refine S.r (Qt.load rfl (Ld.one (v := .int .u64 (x.o.blocks : Int)) hz0 oT rfl)) ?_
      refine S.mv ?_
      refine S.dec rfl rfl (Qt.ge rfl rfl) (fun h61 => ?_) (fun h61 => ?_)
      · refine S.as ?_
        refine S.nil ?_
        refine S.if_t rfl ?_
        refine TC.seq ?_
        refine TC.region ?_
        refine S.r (Qt.load rfl (Ld.hash1 (x := root) hz3 rT ce49)) ?_
        refine S.mv ?_
        refine S.r (Qt.field uT rfl ce40 rfl) ?_
        refine S.r (Qt.load rfl (Ld.one (v := .int .u64 (x.o.blocks : Int)) hz0 oT rfl)) ?_
        refine S.o (OpV.con0 J108 rfl (fun w hw => (by have k := zto E hEm root n x.o.blocks w (hT.at hw); rw [show zmF n x.o.blocks = 0 from (zkB (E := E) (root := zac) ⟨hon, za3 hf (Decidable.not_not.1 h29), h61⟩).2] at k; exact k : Calls prog 108 #[hv root, .int .u64 (n : Int), .int .u64 (x.o.blocks : Int)] w (Ret w (.tuple #[hv (zhj E root n x.o.blocks), .nilIface])))) ?_)
        refine S.mv ?_
        refine S.r (Qt.extract rfl rfl) ?_
        refine S.r (Qt.extract rfl rfl) ?_
        refine S.o (OpV.alloc zT (fun b14 => ?_))
        refine S.opN rfl (OpV.storeV0 (v := hv (zhj E root n x.o.blocks)) rfl rfl (zab ce49) (zai _) (zaf _) ?_)
        refine S.as ?_
        refine S.nil ?_
        refine TC.seq ?_
        refine S.draw ([3], []) mixed (sk (sk (sd (sk (sk sn0))))) ?_
        refine D.qY 0 rfl (Qt.load rfl (Ld.hash1 (x := zhj E root n x.o.blocks) hz0 rT ce49)) ?_
        refine D.p 1 rfl (Qt.move cw) ?_
        refine D.p 2 rfl (Qt.eqnil_nil uT rfl) ?_
        refine D.opN (k := 3) (sk (sk (sd (sk (sk sn0))))) rfl (by kernel_rfl) (by kernel_rfl) rfl (OpV.storeV2 (v := hv (zhj E root n x.o.blocks)) rfl rfl (zab ce49) (zai _) (zaf _) ⟨sk (sk (sd (sk (sk sn0)))), ?_⟩)
        refine D.qY 4 rfl (Qt.assign cw) ?_
        refine D.done (sk (sk (sd (sk (sk sn0))))) (by kernel_rfl) ?_
        refine TC.ret ?_
        refine finQ.ret (RVs.cell rfl (Ld.all hz2 rT (zab ce49)) rv) sn ?_
        exact ⟨_, true, rfl, rfl, fun _ => ⟨hf, .inr (.inl ⟨Decidable.not_not.1 h29, h61, rfl⟩)⟩⟩
      · refine S.as ?_
        refine S.nil ?_
        refine S.if_f rfl ?_
        refine TC.seq ?_
        refine TC.region ?_
        refine S.r (Qt.field uT rfl ce65 rfl) ?_
        refine S.r (Qt.field uT rfl ce33 rfl) ?_
        refine S.r (Qt.load rfl (Ld.one (v := .slice p.P p.pa.length p.p) hz2 oT (zbz q p x 27 _ p.k27))) ?_
        refine S.r (Qt.len_slice uT rfl) ?_
        refine S.dec rfl rfl (Qt.ne (b := 1) rfl rfl) (fun h78 => ?_) (fun h78 => ?_)
        · refine S.as ?_
          refine S.nil ?_
          refine S.if_t rfl ?_
          refine TC.seq ?_
          refine TC.region ?_
          refine S.r (Qt.build (v := hv zac) rfl (fun _ => by kernel_rfl)) ?_
          refine S.opN rfl (OpV.storeV1 (v := hv (zac)) rfl rfl (zab ce49) (zai _) (zaf _) ?_)
          refine S.as ?_
          refine S.nil ?_
          refine TC.ret ?_
          refine finQ.ret (RVs.cell rfl (Ld.all hz1 rT (zab ce49)) rv) sn ?_
          exact ⟨_, false, rfl, rfl, fun e => by cases e⟩
        · refine S.as ?_
          refine S.nil ?_
          refine S.if_f rfl ?_
          refine TC.skip ?_
          refine TC.seq ?_
          refine dr ([18], [17]) ?_
          refine D.qY 0 rfl (Qt.field uT rfl ce65 rfl) ?_
          refine D.qY 1 rfl (Qt.field uT rfl ce33 rfl) ?_
          refine D.qY 2 rfl (Qt.load rfl (Ld.one (v := .slice p.P p.pa.length p.p) hz2 oT (zbz q p x 27 _ p.k27))) ?_
          refine D.qY 3 rfl (Qt.index (i := 0) uT cT rfl rfl ow (Has.ro hp.rop) (by rw [zah]; omega)) ?_
          refine D.qY 4 rfl (Qt.load rfl (Ld.hashS (Has.ro hp.rop) 0 rT ce49 ow rfl)) ?_
          refine D.qY 5 rfl (Qt.field uT rfl ce65 rfl) ?_
          refine D.qY 6 rfl (Qt.field uT rfl ce33 rfl) ?_
          refine D.qY 7 rfl (Qt.load rfl (Ld.one (v := .slice p.Q p.pb.length p.q) hz2 oT (zbz q p x 28 _ p.k28))) ?_
          refine D.qY 8 rfl (Qt.as (Qt.buildS (vs := [hv (p.pa.getD 0 zac), .slice p.Q p.pb.length p.q]) (pls := #[(0, 32), (32, 1)]) uT (fun w => by kernel_rfl) ze198 rfl ⟨(by show some (0, 32) = some (0, _); rw [zaf]), (by show some (32, 1) = some (0 + (vl (hv (p.pa.getD 0 zac))).length, _); rw [zaf]; rfl), trivial⟩ (by show 33 = _; rw [List.flatMap_cons, List.flatMap_singleton, List.length_append, zaf]; rfl)) (show _ = Value.agg (hvl (p.pa.getD 0 zac) ++ [Value.slice p.Q p.pb.length p.q]).toArray by rw [List.flatMap_cons, List.flatMap_singleton, zie]; rfl)) ?_
          refine D.qY 9 rfl (Qt.load rfl (Ld.hash1 (x := root) hz3 rT ce49)) ?_
          refine D.qY 10 rfl (Qt.move cw) ?_
          refine D.qY 11 rfl (Qt.field uT rfl ce40 rfl) ?_
          refine D.qY 12 rfl (Qt.load rfl (Ld.one (v := .int .u64 (x.o.blocks : Int)) hz0 oT rfl)) ?_
          by_cases hck : (cutR E root (p.pa.getD 0 zac) p.pb n x.o.blocks).2 = 0
          · refine D.cX (k := 13) rfl (by kernel_rfl) (by kernel_rfl) (by kernel_rfl) rfl rfl (CalU.con0 J109 rfl (fun w hw => (by have k := zpm E hEm root (p.pa.getD 0 zac) n x.o.blocks p.Q p.q p.pb hp.capq w (Rd.ro hp.roq w hw) (hT.at hw); rw [hck] at k; (try simp only [List.length_map, List.length_range] at k); exact k : Calls prog 109 #[.agg (hvl (p.pa.getD 0 zac) ++ [Value.slice p.Q p.pb.length p.q]).toArray, hv root, .int .u64 (n : Int), .int .u64 (x.o.blocks : Int)] w (Ret w (.tuple #[hv (cutR E root (p.pa.getD 0 zac) p.pb n x.o.blocks).1, .nilIface]))))) ?_
            refine D.qY 14 rfl (Qt.move cw) ?_
            refine D.qY 15 rfl (Qt.extract rfl rfl) ?_
            refine D.p 16 rfl (Qt.extract rfl rfl) ?_
            refine D.nS (k := 17) sr rfl (by kernel_rfl) (by kernel_rfl) rfl rfl (OpV.alloc zT (fun b16 => ⟨sd sr, ?_⟩))
            refine D.opN (k := 18) (sd (sk (sk (sk (sk sn0))))) rfl (by kernel_rfl) (by kernel_rfl) rfl (OpV.storeV0 (v := hv ((cutR E root (p.pa.getD 0 zac) p.pb n x.o.blocks).1)) rfl rfl (zab ce49) (zai _) (zaf _) ⟨sd (sk (sk (sk (sk sn0)))), ?_⟩)
            refine D.qY 19 rfl (Qt.assign cw) ?_
            refine D.done (sd (sk (sk (sk (sk sn0))))) (by kernel_rfl) ?_
            refine TC.seq ?_
            refine S.draw ([3], []) mixed (sk (sk (sd (sk (sk sn0))))) ?_
            refine D.qY 0 rfl (Qt.load rfl (Ld.hash1 (x := (cutR E root (p.pa.getD 0 zac) p.pb n x.o.blocks).1) hz0 rT ce49)) ?_
            refine D.p 1 rfl (Qt.move cw) ?_
            refine D.p 2 rfl (Qt.eqnil_nil uT rfl) ?_
            refine D.opN (k := 3) (sk (sk (sd (sk (sk sn0))))) rfl (by kernel_rfl) (by kernel_rfl) rfl (OpV.storeV2 (v := hv ((cutR E root (p.pa.getD 0 zac) p.pb n x.o.blocks).1)) rfl rfl (zab ce49) (zai _) (zaf _) ⟨sk (sk (sd (sk (sk sn0)))), ?_⟩)
            refine D.qY 4 rfl (Qt.assign cw) ?_
            refine D.done (sk (sk (sd (sk (sk sn0))))) (by kernel_rfl) ?_
            refine TC.ret ?_
            refine finQ.ret (RVs.cell rfl (Ld.all hz2 rT (zab ce49)) rv) sn ?_
            exact ⟨_, true, rfl, rfl, fun _ => ⟨hf, .inr (.inr ⟨Decidable.not_not.1 h29, by omega, Decidable.not_not.1 h78, Prod.ext rfl hck⟩)⟩⟩
          · refine D.cX (k := 13) rfl (by kernel_rfl) (by kernel_rfl) (by kernel_rfl) rfl rfl (CalU.con0 J109 rfl (fun w hw => (by have k := zpm E hEm root (p.pa.getD 0 zac) n x.o.blocks p.Q p.q p.pb hp.capq w (Rd.ro hp.roq w hw) (hT.at hw); rw [errv, if_neg hck] at k; (try simp only [List.length_map, List.length_range] at k); exact k : Calls prog 109 #[.agg (hvl (p.pa.getD 0 zac) ++ [Value.slice p.Q p.pb.length p.q]).toArray, hv root, .int .u64 (n : Int), .int .u64 (x.o.blocks : Int)] w (Ret w (.tuple #[hv (cutR E root (p.pa.getD 0 zac) p.pb n x.o.blocks).1, .iface 73 (.int .i64 (((cutR E root (p.pa.getD 0 zac) p.pb n x.o.blocks).2 : Nat) : Int))]))))) ?_
            refine D.qY 14 rfl (Qt.move cw) ?_
            refine D.qY 15 rfl (Qt.extract rfl rfl) ?_
            refine D.p 16 rfl (Qt.extract rfl rfl) ?_
            refine D.nS (k := 17) sr rfl (by kernel_rfl) (by kernel_rfl) rfl rfl (OpV.alloc zT (fun b16 => ⟨sd sr, ?_⟩))
            refine D.opN (k := 18) (sd (sk (sk (sk (sk sn0))))) rfl (by kernel_rfl) (by kernel_rfl) rfl (OpV.storeV0 (v := hv ((cutR E root (p.pa.getD 0 zac) p.pb n x.o.blocks).1)) rfl rfl (zab ce49) (zai _) (zaf _) ⟨sd (sk (sk (sk (sk sn0)))), ?_⟩)
            refine D.qY 19 rfl (Qt.assign cw) ?_
            refine D.done (sd (sk (sk (sk (sk sn0))))) (by kernel_rfl) ?_
            refine TC.seq ?_
            refine S.draw ([3], []) mixed (sk (sk (sd (sk (sk sn0))))) ?_
            refine D.qY 0 rfl (Qt.load rfl (Ld.hash1 (x := (cutR E root (p.pa.getD 0 zac) p.pb n x.o.blocks).1) hz0 rT ce49)) ?_
            refine D.p 1 rfl (Qt.move cw) ?_
            refine D.p 2 rfl (Qt.eqnil_iface uT rfl) ?_
            refine D.opN (k := 3) (sk (sk (sd (sk (sk sn0))))) rfl (by kernel_rfl) (by kernel_rfl) rfl (OpV.storeV2 (v := hv ((cutR E root (p.pa.getD 0 zac) p.pb n x.o.blocks).1)) rfl rfl (zab ce49) (zai _) (zaf _) ⟨sk (sk (sd (sk (sk sn0)))), ?_⟩)
            refine D.qY 4 rfl (Qt.assign cw) ?_
            refine D.done (sk (sk (sd (sk (sk sn0))))) (by kernel_rfl) ?_
            refine TC.ret ?_
            refine finQ.ret (RVs.cell rfl (Ld.all hz2 rT (zab ce49)) rv) sn ?_
            exact ⟨_, false, rfl, rfl, fun e => by cases e⟩
  · refine S.o (OpV.con0 J93 rfl (fun w hw => (by have k := zdq x.A x.c x.B x.d x.o hss hxx n w hx.low (Rd.ro hx.ro w hw) (Rd.ro hx.rs w hw); rw [decide_eq_false hf] at k; exact k : Calls prog 93 #[.agg (ordL x).toArray, .int .u64 (n : Int)] w (Ret w (.bool false)))) ?_)
    refine S.r (Qt.not_f rfl) ?_
    refine S.as ?_
    refine S.nil ?_
    refine S.if_t rfl ?_
    refine TC.seq ?_
    refine TC.region ?_
    refine S.r (Qt.build (v := hv zac) rfl (fun _ => by kernel_rfl)) ?_
    refine S.opN rfl (OpV.storeV1 (v := hv (zac)) rfl rfl (zab ce49) (zai _) (zaf _) ?_)
    refine S.as ?_
    refine S.nil ?_
    refine TC.ret ?_
    refine finQ.ret (RVs.cell rfl (Ld.all hz1 rT (zab ce49)) rv) sn ?_
    exact ⟨_, false, rfl, rfl, fun e => by cases e⟩
end Go.Proofs.YtgdjcmehlhebdaaGreatDoor
