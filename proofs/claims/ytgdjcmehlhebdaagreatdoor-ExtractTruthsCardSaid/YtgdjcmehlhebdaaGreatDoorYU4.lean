/- Walks: what the document holds a reply to a read against -/
import Derived.Test.YtgdjcmehlhebdaaGreatDoorYU2
set_option maxHeartbeats 25600000
set_option linter.all false
namespace Go.Proofs.YtgdjcmehlhebdaaGreatDoor
open _root_.Go.Proofs.Tryz
open Go.E
set_option maxRecDepth 4000
theorem J26 : p8 prog 26 := ⟨_, func26, by kernel_rfl, rfl⟩
theorem J30 : p8 prog 30 := ⟨_, func30, by kernel_rfl, rfl⟩
theorem zeG (q : ReqA) (hk : ¬ q.kind = 1) (hf : q.first < 18446744073709551616) (l : List Nat) (hl : l = fG q.kind q.first q.many q.xs) (w0) : cP 79 #[.agg q.rq.toArray] w0 fun v L => ∃ O d, v = sL O l.length d ∧ L = [OwnA 40 1 O l.length d (w6 l)] := by
 subst hl
 unfold fG
 rw [if_neg hk]
 by_cases hq : q.kind = 2 ∧ 1 ≤ q.many ∧ q.many ≤ 256 ∧ q.first + q.many.toNat ≤ 4294967296
 ·rw [if_pos hq]
  exact DB q hk hq.1 q.many.toNat ow ow ow hq.2.2.2 _ rfl w0
 ·rw [if_neg hq]
  have fin : cP 79 #[.agg q.rq.toArray] w0 fun v L => v = sL none 0 0 ∧ L = [] := by
   by_cases hk2 : q.kind = 2
   ·by_cases hm : q.many < 1 ∨ 256 < q.many
    ·exact zce q hk hk2 hm w0
    ·obtain ⟨n, hn⟩ : ∃ n : Nat, q.many = (n : Int) := ⟨q.many.toNat, by omega⟩
     exact zcb q hk hk2 n hn ow ow hf (fun g => hq ⟨hk2, by omega, by omega, by rw [hn]; exact g⟩) w0
   ·exact zcc q hk hk2 w0
  exact fin.mono fun e w' ⟨v, L', h1, h2, h3, h4⟩ => ⟨v, [OwnA 40 1 none 0 0 []], h1, by subst h4; exact h2.ownNil 40 1, none, 0, h3, rfl⟩
theorem zaN (E : Nat → i6) (qb n sm tb mb : Nat) (hon : fE n) (q : ReqA) (p : RepA) (hk : q.kind = 1) (hno : pX (s7 n) q.xs p.err p.its) (w0) (hq : q.Ok w0) (hp : p.Ok w0) (hQ : Ro w0 [] (Blk qb 160 [uI n, .map (some sm), pZ tb])) (hB : Ro w0 [] (Blk tb 243 (q7 E (s7 n) mb))) :
  cP 32 #[pZ qb, .agg q.rq.toArray, .agg p.rs.toArray] w0 fun v L => ∃ (O : y8) (d : Nat) (ps qs : List Px) (Ls Ms : List Assn), v = sL O (ps.length + qs.length) d ∧ L = [OwnA 114 2 O (ps.length + qs.length) d (ps.flatMap aZ ++ qs.flatMap aZ), C1 Ls, C1 Ms] ∧ ps.map N9 = ([] : List Pr) ∧ qs.map N9 = ([] : List Pr) ∧ ps.length + qs.length ≤ 16384 ∧ (∀ p ∈ ps, u3 p.1 ∈ Ls ∧ u3 p.2 ∈ Ls) ∧ ∀ p ∈ qs, u3 p.1 ∈ Ms ∧ u3 p.2 ∈ Ms := by
 refine co 132 [.tmp 6] func32 ?_
 refine m6 114 2 (x3 (x3 (gw ?_)))
 intro b4
 refine gw ?_
 intro b5
 refine gw ?_
 refine e6 (a8 rfl (i4 (vs := q.rq) N3 rT (by rw [q.len]; exact ce63))) (u7 en (fun w hw => cQ (rO q hk w)) (gw ?_))
 refine E8 rfl rfl rfl (a8 rfl (i9 (v := iI p.err) w5 oT (p.k2))) (D9 rfl rfl rfl (dG rfl rfl) (fun h23 => gw ?_) (fun h23 => gw ?_))
 ·refine a9 (D7 (sx [4, 3, 2]) ?_)
  exact ⟨none, 0, [], [], [], [], rfl, rfl, rfl, rfl, Nat.zero_le _, (fun p hp => by cases hp), fun p hp => by cases hp⟩
 ·refine aK en (fun w hw => M4 E tb mb (s7 n) w (Rd.ro hB w hw)) (gw ?_)
  by_cases hi : idxOk (s7 n) q.xs
  ·refine aK en (fun w hw => aD (s7 n) (aL hon) q.A q.c q.xs hi w hq.low (Rd.ro hq.ro w hw)) (gw ?_)
   refine E8 rfl rfl rfl (a8 rfl (i9 (v := sL p.I p.its.length p.i) w5 oT (p.k3))) (gw ?_)
   refine D9 rfl rfl rfl (C7 rfl rfl) (fun h41 => gw ?_) (fun h41 => gw ?_)
   ·refine a9 (D7 (sx [4, 3, 2]) ?_)
    exact ⟨none, 0, [], [], [], [], rfl, rfl, rfl, rfl, Nat.zero_le _, (fun p hp => by cases hp), fun p hp => by cases hp⟩
   ·exact absurd hno (tP h23 hi h41)
  ·refine aK en (fun w hw => eD (s7 n) (aL hon) q.A q.c q.xs hi w hq.low (Rd.ro hq.ro w hw)) (gw ?_)
   refine a9 (D7 (sx [4, 3, 2]) ?_)
   exact ⟨none, 0, [], [], [], [], rfl, rfl, rfl, rfl, Nat.zero_le _, (fun p hp => by cases hp), fun p hp => by cases hp⟩
theorem zaO (E : Nat → i6) (qb n sm tb mb : Nat) (hon : fE n) (q : ReqA) (p : RepA) (hk : ¬ q.kind = 1) (l : List Nat) (hl : l = fG q.kind q.first q.many q.xs) (lw : lW l) (hno : pX (s7 n) l p.err p.its) (w0) (hq : q.Ok w0) (hp : p.Ok w0) (hQ : Ro w0 [] (Blk qb 160 [uI n, .map (some sm), pZ tb])) (hB : Ro w0 [] (Blk tb 243 (q7 E (s7 n) mb))) :
  cP 32 #[pZ qb, .agg q.rq.toArray, .agg p.rs.toArray] w0 fun v L => ∃ (O : y8) (d : Nat) (ps qs : List Px) (Ls Ms : List Assn), v = sL O (ps.length + qs.length) d ∧ L = [OwnA 114 2 O (ps.length + qs.length) d (ps.flatMap aZ ++ qs.flatMap aZ), C1 Ls, C1 Ms] ∧ ps.map N9 = ([] : List Pr) ∧ qs.map N9 = ([] : List Pr) ∧ ps.length + qs.length ≤ 16384 ∧ (∀ p ∈ ps, u3 p.1 ∈ Ls ∧ u3 p.2 ∈ Ls) ∧ ∀ p ∈ qs, u3 p.1 ∈ Ms ∧ u3 p.2 ∈ Ms := by
 refine co 132 [.tmp 6] func32 ?_
 refine m6 114 2 (x3 (x3 (gw ?_)))
 intro b4
 refine gw ?_
 intro b5
 refine gw ?_
 refine e6 (a8 rfl (i4 (vs := q.rq) N3 rT (by rw [q.len]; exact ce63))) (z9 en (fun w hw => zeG q hk hq.lt l hl w) ?_)
 rintro v L' ⟨X, x, rfl, rfl⟩
 refine gw ?_
 refine E8 rfl rfl rfl (a8 rfl (i9 (v := iI p.err) N3 oT (p.k2))) (D9 rfl rfl rfl (dG rfl rfl) (fun h23 => gw ?_) (fun h23 => gw ?_))
 ·refine a9 (D7 (sx [5, 4, 3]) ?_)
  exact ⟨none, 0, [], [], [], [], rfl, rfl, rfl, rfl, Nat.zero_le _, (fun p hp => by cases hp), fun p hp => by cases hp⟩
 ·refine aK en (fun w hw => M4 E tb mb (s7 n) w (Rd.ro hB w hw)) (gw ?_)
  by_cases hi : idxOk (s7 n) l
  ·refine aK en (fun w hw => aD (s7 n) (aL hon) X x l hi w lw (Rd.own (Rd.at 0 rfl) w hw)) (gw ?_)
   refine E8 rfl rfl rfl (a8 rfl (i9 (v := sL p.I p.its.length p.i) N3 oT (p.k3))) (gw ?_)
   refine D9 rfl rfl rfl (C7 rfl rfl) (fun h41 => gw ?_) (fun h41 => gw ?_)
   ·refine a9 (D7 (sx [5, 4, 3]) ?_)
    exact ⟨none, 0, [], [], [], [], rfl, rfl, rfl, rfl, Nat.zero_le _, (fun p hp => by cases hp), fun p hp => by cases hp⟩
   ·exact absurd hno (tP h23 hi h41)
  ·refine aK en (fun w hw => eD (s7 n) (aL hon) X x l hi w lw (Rd.own (Rd.at 0 rfl) w hw)) (gw ?_)
   refine a9 (D7 (sx [5, 4, 3]) ?_)
   exact ⟨none, 0, [], [], [], [], rfl, rfl, rfl, rfl, Nat.zero_le _, (fun p hp => by cases hp), fun p hp => by cases hp⟩
theorem zhp (E : Nat → i6) (qb n sm tb mb : Nat) (Y : Sm) (ms : Tm) (hon : fE n) (q : ReqA) (p : RepA) (l : List Nat) (hl : l = fG q.kind q.first q.many q.xs) (w0) (hq : q.Ok w0) (hp : p.Ok w0) (hQ : Ro w0 [] (Blk qb 160 [uI n, .map (some sm), pZ tb])) (hB : Ro w0 [] (Blk tb 243 (q7 E (s7 n) mb))) (hM : Ro w0 [] (u6 mb p6 hv ms)) (hSm : Ro w0 [] (u6 sm Q9 sv Y)) (hT : Tabs 3 1 w0 []) :
  cP 32 #[pZ qb, .agg q.rq.toArray, .agg p.rs.toArray] w0 fun v L => fF 114 (eX (fun x => s4 E ms (0, x)) (fun a => s4 E ms a) (s7 n) q.kind q.first l p.err p.its p.pa p.pb ++ jS (Z0 Y) (s7 n) l p.err p.its) v L := by
 refine HG ?_
 have lw := DA (kind := q.kind) (first := q.first) (many := q.many) hq.low
 rw [← hl] at lw
 by_cases hb : pX (s7 n) l p.err p.its
 ·rw [aB hb, cG hb]
  by_cases hk : q.kind = 1
  ·rw [FO hk] at hl
   subst hl
   exact zaN E qb n sm tb mb hon q p hk hb w0 hq hp hQ hB
  ·exact zaO E qb n sm tb mb hon q p hk l hl lw hb w0 hq hp hQ hB
 ·have h1 : p.err = 0 := Decidable.byContradiction fun k => hb (.inl k)
  have h2 : idxOk (s7 n) l := Decidable.byContradiction fun k => hb (.inr (.inl k))
  have h3 : p.its.length = l.length := Decidable.byContradiction fun k => hb (.inr (.inr k))
  rw [wZ hb]
  by_cases hk : q.kind = 1
  ·rw [uB hb hk]
   rw [FO hk] at hl
   subst hl
   exact zbw E qb n sm tb mb Y ms hon q p hk h2 h3 h1 w0 hq hp hQ hB hM hSm hT
  ·rw [uC hb hk]
   have h4 := h2
   rw [hl] at h4
   obtain ⟨m, k1, k2, k3, k4, k5, k6, k7, k8⟩ := FP hk (aL hon) h4
   rw [← hl] at k6 k7
   have h := zbx E qb n sm tb mb Y ms hon q p k1 m k2 k3 k4 k8 k5 l k6 lw h2 h3 h1 w0 hq hp hQ hB hM hSm hT
   rw [k7] at h ⊢
   exact h
theorem zaV (E : Nat → i6) (hEr : ∀ w, Tabs 2 0 w [] → cP 137 #[] w fun v L => ∃ O d, v = sL O 33 d ∧ L = [OwnA 49 32 O 33 d (m9 (H3 E))]) (hE : ∀ h, E (h + 1) = F8 (h + 1) (E h) (E h)) (n : Nat) (A) (c : Nat) (M : Sm) (hl : M.length ≤ 4095) (hon : fE n) (q : ReqB) (hk : q.kind = 1) (r : RepB) (hni : r.its.length ≤ 16384) (w0) (lw : ∀ y ∈ M, y.1 < 18446744073709551616) (hM : Ro w0 [] (SlA A (M.flatMap M9))) (hlx : ∀ x ∈ q.xs, x < 18446744073709551616) (hcx : q.xs.length ≤ q.c) (hR : Ro w0 [] (SlA q.A (w6 q.xs))) (hI : Ro w0 [] (SlA r.I (r.its.flatMap u9))) (hP2 : Ro w0 [] (SlA r.P (m9 r.pa))) (hQ2 : Ro w0 [] (SlA r.Q (m9 r.pb))) (hT : Tabs 2 0 w0 []) :
  cP 33 #[.agg #[uI n, sL A M.length c], .agg (bL q).toArray, .agg (Y5 r).toArray] w0 fun v L => ∃ (O : y8) (d : Nat) (ps qs : List Px) (Ls Ms : List Assn), v = sL O (ps.length + qs.length) d ∧ L = [OwnA 115 2 O (ps.length + qs.length) d (ps.flatMap aZ ++ qs.flatMap aZ), C1 Ls, C1 Ms] ∧ ps.map N9 = (eX (fun x => s5 (fL E (T7 M)) 0 x) (fun a : Nat × Nat => s5 (fL E (T7 M)) a.1 a.2) (s7 n) q.kind q.first q.xs r.err r.its r.pa r.pb) ∧ qs.map N9 = (jS (Z0 M) (s7 n) q.xs r.err r.its) ∧ ps.length + qs.length ≤ 16384 ∧ (∀ p ∈ ps, u3 p.1 ∈ Ls ∧ u3 p.2 ∈ Ls) ∧ ∀ p ∈ qs, u3 p.1 ∈ Ms ∧ u3 p.2 ∈ Ms := by
 refine co 111 [.tmp 6] func33 ?_
 have hh := aL hon
 refine m6 115 2 (x3 (x3 (gw ?_)))
 intro b3
 refine gw ?_
 intro b4
 refine gw ?_
 intro b5
 refine gw ?_
 refine e6 (a8 rfl (i4 (vs := [uI n, sL A M.length c]) aH rT ce76)) (z9 en (fun w hw => gH E hEr n A c M hl hon w lw (Rd.ro hM w hw) (hT.at hw)) ?_)
 rintro v L' ⟨A1, c1, O, d, rfl, rfl⟩
 refine gw ?_
 intro b7
 refine j9 rfl (j5 (v := .agg #[iI (s7 n : Int), sL A1 (T7 M).length c1, sL O 33 d]) rfl rfl (by exact ce83) (by rfl) (by rfl) (gw ?_))
 refine e6 (a8 rfl (i4 (vs := bL q) (s6 4 rfl) rT (by rw [T8]; exact ce105))) (u7 en (fun w hw => cQ (zb9 q hk w)) (gw ?_))
 refine j0 rfl rfl (dG rfl rfl) (fun h21 => gw ?_) (fun h21 => gw ?_)
 ·refine a9 (D7 (sT (sk (sk (sk (sd (sd (sd (sd (sd (sd I8))))))))) (sT (sk (sT (sk (sT (sk sr) (e5 pm6))) (e5 (List.perm_middle (l₁ := [_, _, _, _, _, _, _]))))) (e5 (List.perm_middle (l₁ := [_, _, _, _, _, _, _, _]))))) ?_)
  exact ⟨none, 0, [], [], [], [], rfl, rfl, (aB (.inl h21)).symm, (cG (.inl h21)).symm, Nat.zero_le _, (fun p hp => by cases hp), fun p hp => by cases hp⟩
 ·by_cases hi : idxOk (s7 n) q.xs
  ·refine aK en (fun w hw => (by have h := U2 (s7 n) hh q.A q.c q.xs w hlx (Rd.ro hR w hw); rw [decide_eq_true hi] at h; exact h : cR 87 #[iI (s7 n : Int), sL q.A q.xs.length q.c] w (.bool true))) (gw ?_)
   refine D9 rfl rfl rfl (C7 rfl rfl) (fun h35 => gw ?_) (fun h35 => gw ?_)
   ·refine a9 (D7 (sT (sk (sk (sk (sd (sd (sd (sd (sd (sd I8))))))))) (sT (sk (sT (sk (sT (sk sr) (e5 pm6))) (e5 (List.perm_middle (l₁ := [_, _, _, _, _, _, _]))))) (e5 (List.perm_middle (l₁ := [_, _, _, _, _, _, _, _]))))) ?_)
    exact ⟨none, 0, [], [], [], [], rfl, rfl, (aB (.inr (.inr h35))).symm, (cG (.inr (.inr h35))).symm, Nat.zero_le _, (fun p hp => by cases hp), fun p hp => by cases hp⟩
   ·refine m6 49 32 ?_
    refine l5 (γ := Nat × y8 × Nat) (mr 37 20 [9, 10]) (fun g => [(10, iI g.1), (9, sL g.2.1 g.1 g.2.2)]) (fun g => [OwnA 49 32 g.2.1 g.1 g.2.2 (m9 (M8 q.xs r.its g.1)), Blk b7 83 [iI (s7 n : Int), sL A1 (T7 M).length c1, sL O 33 d], OwnA 173 33 A1 (T7 M).length c1 ((T7 M).flatMap L5), OwnA 49 32 O 33 d (m9 (H3 E)), Blk b5 100 (Y5 r), Blk b4 105 (bL q), Blk b3 76 [uI n, sL A M.length c]]) (fun g => g.1 ≤ q.xs.length) (fun g => q.xs.length - g.1) ((0, none, 0))
     (Nat.zero_le _) oa (sk (sk (sk (sk (sk (sk (sk (sd (sd (sd I8)))))))))) ?_
    rintro ⟨k, O1, d1⟩ u hk2
    dsimp only at hk2
    have hil : r.its.length = q.xs.length := Decidable.not_not.1 h35
    show TC _ _ _ (puts [(10, iI k), (9, sL O1 k d1)] (scr _ u _)) [OwnA 49 32 O1 k d1 (m9 (M8 q.xs r.its k)), Blk b7 83 [iI (s7 n : Int), sL A1 (T7 M).length c1, sL O 33 d], OwnA 173 33 A1 (T7 M).length c1 ((T7 M).flatMap L5), OwnA 49 32 O 33 d (m9 (H3 E)), Blk b5 100 (Y5 r), Blk b4 105 (bL q), Blk b3 76 [uI n, sL A M.length c]]
    refine gw ?_
    refine j0 rfl rfl (p9 rfl rfl) (fun h40 => gw ?_) (fun h40 => gw ?_)
    ·refine D1 ([13], [10, 12]) mixed (sd (sk (sk (sk (sk (sk (sk I8))))))) (gw ?_)
     refine c6 3 rfl (i5 uT cT rfl rfl ow (c9 hR) (by rw [D5]; omega)) (c6 4 rfl (a8 rfl (A9 (v := uI ↑(q.xs.getD k 0)) (c9 hR) oT (F6 ow))) (gw ?_))
     refine c6 8 rfl (i5 uT cT rfl rfl ow (c9 hI) (by rw [Z9]; omega)) (c6 9 rfl (a8 rfl (H4 (vs := u9 (r.its.getD k z8)) (c9 hI) rT (by rw [m0]; exact ce93) (by rw [m0]; decide) (bQ ow rfl))) (P5 10 rfl en (fun w hw => gG (q.xs.getD k 0) (hlx _ (E6 0 ow)) (r.its.getD k z8) w) ?_))
     rintro v L' ⟨Ot, dt, rfl, rfl⟩
     refine I7 11 rfl en (fun w hw => cQ (Y2 Ot dt (H9 (q.xs.getD k 0) (r.its.getD k z8)) w (Rd.own (Rd.at 0 rfl) w hw) (by have := qL (q.xs.getD k 0) (r.its.getD k z8); omega) (hT.at hw))) ?_
     refine aO 12 rfl (m5 (v := hv (K3 (H9 (q.xs.getD k 0) (r.its.getD k z8)))) uT elem49 dc rfl (v9 _) (fun g55 => (G0 ?_)))
     refine V5 13 rfl (Q1 (news := L8 (K3 (H9 (q.xs.getD k 0) (r.its.getD k z8)))) uT elem49 rfl rfl (j8 (cs := L8 (K3 (H9 (q.xs.getD k 0) (r.its.getD k z8)))) w5) (by rw [l6]) (List.all_eq_true.1 (Y4 _)) kx (by have := hi.2.1; omega) (fun O3 d3 => (G0 (gw ?_))))
     refine p7 (gw ?_)
     exact ⟨(k + 1, O3, d3), od, od, oz, (by dsimp only; rw [zG]; exact sp)⟩
    ·refine i7 (c8 (c7 ?_))
     obtain rfl : k = q.xs.length := by omega
     refine e6 (a8 rfl (i4 (vs := [iI (s7 n : Int), sL A1 (T7 M).length c1, sL O 33 d]) N3 rT ce83)) (gw ?_)
     refine z9 en (fun w hw => eZ E hE (s7 n) hh (T7 M) A1 c1 O d q.A q.c q.xs hi w (by rw [bU]; omega) (cS lw) (Rd.own (Rd.at 2 rfl) w hw) (Rd.own (Rd.at 3 rfl) w hw) hlx (Rd.ro hR w hw) (hT.at hw)) ?_
     rintro v L' ⟨Pw, qw, rfl, rfl⟩
     refine gw ?_
     refine e6 (Qt.dT (I5 rfl rfl) (hk)) (gw ?_)
     refine dw ([], [6, 10]) (gw ?_)
     refine c6 4 rfl (a8 rfl (i4 (vs := [iI (s7 n : Int), sL A1 (T7 M).length c1, sL O 33 d]) aH rT ce83)) (gw ?_)
     refine c6 9 rfl (a8 rfl (i9 (v := sL r.Q r.pb.length r.q) (s6 5 rfl) oT (nJ r))) (P5 6 rfl en (fun w hw => pN E hE (s7 n) hh (T7 M) A1 c1 O d q.A q.c q.xs hi w (by rw [bU]; omega) (cS lw) (Rd.own (Rd.at 3 rfl) w hw) (Rd.own (Rd.at 4 rfl) w hw) hlx (Rd.ro hR w hw) (hT.at hw)) ?_)
     rintro v L' ⟨Pb, qb2, rfl, rfl⟩
     refine P5 10 rfl en (fun w hw => (by have k := ER (s7 n : Int) q.A q.c q.xs hcx Pw qw (q.xs.map (fun x => s5 (fL E (T7 M)) 0 x)) Pb qb2 ((l7 (s7 n) q.xs 0).map (fun a : Nat × Nat => s5 (fL E (T7 M)) a.1 a.2)) O1 d1 (M8 q.xs r.its q.xs.length) r.Q r.q r.pb w hlx (Rd.ro hR w hw) (Rd.own (Rd.at 1 rfl) w hw) (Rd.own (Rd.at 0 rfl) w hw) (Rd.own (Rd.at 2 rfl) w hw) (Rd.ro hQ2 w hw) (hT.at hw); simp only [List.length_map, U7] at k; exact k : cP 89 #[iI (s7 n : Int), sL q.A q.xs.length q.c, sL Pw q.xs.length qw, sL Pb (l7 (s7 n) q.xs 0).length qb2, sL O1 q.xs.length d1, sL r.Q r.pb.length r.q] w fun v L => fF 115 (D4 (I3 (s7 n : Int) q.xs (q.xs.map (fun x => s5 (fL E (T7 M)) 0 x)) ((l7 (s7 n) q.xs 0).map (fun a : Nat × Nat => s5 (fL E (T7 M)) a.1 a.2))) (I3 (s7 n : Int) q.xs (M8 q.xs r.its q.xs.length) r.pb)) v L)) ?_
     rintro v L' ⟨O4, d4, pp, Ls, rfl, rfl, e1, e2, e3⟩
     refine gw ?_
     refine p7 (gw ?_)
     refine D1 ([8], [4, 7]) mixed (sd (sk (sk (sk (sk (sk (sk (sk (sk (sk (sk I8))))))))))) (gw ?_)
     refine c6 2 rfl (a8 rfl (i4 (vs := [uI n, sL A M.length c]) (s6 10 rfl) rT ce76)) (gw ?_)
     refine P5 4 rfl en (fun w hw => nE n A c M hl q.A q.c q.xs (by have := hi.2.1; omega) w lw (Rd.ro hM w hw) hlx (Rd.ro hR w hw)) ?_
     rintro v L' ⟨O7, d7, rfl, rfl⟩
     refine P5 7 rfl en (fun w hw => (by have k := mK q.A q.c q.xs (by have := hi.2.1; omega) O7 d7 (q.xs.map (Z0 M)) r.I r.i r.its w hlx (Rd.ro hR w hw) (Rd.own (Rd.at 0 rfl) w hw) (Rd.ro hI w hw); simp only [List.length_map] at k; exact k : cP 11 #[sL q.A q.xs.length q.c, sL O7 q.xs.length d7, sL r.I r.its.length r.i] w fun v L => fF 115 (D4 (M6 q.xs (q.xs.map (Z0 M))) (M6 q.xs r.its)) v L)) ?_
     rintro v L' ⟨O8, d8, qq, Ls2, rfl, rfl, f1, f2, f3⟩
     refine V5 8 rfl (S9 (news := qq.flatMap aZ) uT elem115 rfl rfl (x8 w5) (wV qq) (wW qq) kx ow (fun O9 d9 => (G0 (gw ?_))))
     refine p7 (a9 (D7 (sx [3, 3, 1]) ?_))
     have hb := tP h21 hi h35
     refine ⟨_, _, pp, qq, Ls, Ls2, rfl, rfl, ?_, ?_, ?_, e3, f3⟩
     ·rw [uB hb hk]; exact e1
     ·rw [wZ hb]; exact f1
     ·have a1 := congrArg List.length e1; have a2 := congrArg List.length f1; rw [List.length_map] at a1 a2; have b1 := zL hh hi.2.1 (q.xs.map (fun x => s5 (fL E (T7 M)) 0 x)) ((l7 (s7 n) q.xs 0).map (fun a : Nat × Nat => s5 (fL E (T7 M)) a.1 a.2)) (M8 q.xs r.its q.xs.length) r.pb; have b2 := eU hi.2.1 (q.xs.map (Z0 M)) r.its; omega
  ·refine aK en (fun w hw => (by have h := U2 (s7 n) hh q.A q.c q.xs w hlx (Rd.ro hR w hw); rw [decide_eq_false hi] at h; exact h : cR 87 #[iI (s7 n : Int), sL q.A q.xs.length q.c] w (.bool false))) (gw ?_)
   refine a9 (D7 (sT (sk (sk (sk (sd (sd (sd (sd (sd (sd I8))))))))) (sT (sk (sT (sk (sT (sk sr) (e5 pm6))) (e5 (List.perm_middle (l₁ := [_, _, _, _, _, _, _]))))) (e5 (List.perm_middle (l₁ := [_, _, _, _, _, _, _, _]))))) ?_)
   exact ⟨none, 0, [], [], [], [], rfl, rfl, (aB (.inr (.inl hi))).symm, (cG (.inr (.inl hi))).symm, Nat.zero_le _, (fun p hp => by cases hp), fun p hp => by cases hp⟩
theorem zaW (E : Nat → i6) (hEr : ∀ w, Tabs 2 0 w [] → cP 137 #[] w fun v L => ∃ O d, v = sL O 33 d ∧ L = [OwnA 49 32 O 33 d (m9 (H3 E))]) (hE : ∀ h, E (h + 1) = F8 (h + 1) (E h) (E h)) (n : Nat) (A) (c : Nat) (M : Sm) (hl : M.length ≤ 4095) (hon : fE n) (q : ReqB) (hk : ¬ q.kind = 1) (hf : q.first < 18446744073709551616) (l : List Nat) (hlq : l = fG q.kind q.first q.many q.xs) (hll : lW l) (r : RepB) (hni : r.its.length ≤ 16384) (w0) (lw : ∀ y ∈ M, y.1 < 18446744073709551616) (hM : Ro w0 [] (SlA A (M.flatMap M9))) (hlx : ∀ x ∈ q.xs, x < 18446744073709551616) (hcx : q.xs.length ≤ q.c) (hR : Ro w0 [] (SlA q.A (w6 q.xs))) (hI : Ro w0 [] (SlA r.I (r.its.flatMap u9))) (hP2 : Ro w0 [] (SlA r.P (m9 r.pa))) (hQ2 : Ro w0 [] (SlA r.Q (m9 r.pb))) (hT : Tabs 2 0 w0 []) :
  cP 33 #[.agg #[uI n, sL A M.length c], .agg (bL q).toArray, .agg (Y5 r).toArray] w0 fun v L => ∃ (O : y8) (d : Nat) (ps qs : List Px) (Ls Ms : List Assn), v = sL O (ps.length + qs.length) d ∧ L = [OwnA 115 2 O (ps.length + qs.length) d (ps.flatMap aZ ++ qs.flatMap aZ), C1 Ls, C1 Ms] ∧ ps.map N9 = (eX (fun x => s5 (fL E (T7 M)) 0 x) (fun a : Nat × Nat => s5 (fL E (T7 M)) a.1 a.2) (s7 n) q.kind q.first l r.err r.its r.pa r.pb) ∧ qs.map N9 = (jS (Z0 M) (s7 n) l r.err r.its) ∧ ps.length + qs.length ≤ 16384 ∧ (∀ p ∈ ps, u3 p.1 ∈ Ls ∧ u3 p.2 ∈ Ls) ∧ ∀ p ∈ qs, u3 p.1 ∈ Ms ∧ u3 p.2 ∈ Ms := by
 refine co 111 [.tmp 6] func33 ?_
 have hh := aL hon
 refine m6 115 2 (x3 (x3 (gw ?_)))
 intro b3
 refine gw ?_
 intro b4
 refine gw ?_
 intro b5
 refine gw ?_
 refine e6 (a8 rfl (i4 (vs := [uI n, sL A M.length c]) aH rT ce76)) (z9 en (fun w hw => gH E hEr n A c M hl hon w lw (Rd.ro hM w hw) (hT.at hw)) ?_)
 rintro v L' ⟨A1, c1, O, d, rfl, rfl⟩
 refine gw ?_
 intro b7
 refine j9 rfl (j5 (v := .agg #[iI (s7 n : Int), sL A1 (T7 M).length c1, sL O 33 d]) rfl rfl (by exact ce83) (by rfl) (by rfl) (gw ?_))
 refine e6 (a8 rfl (i4 (vs := bL q) (s6 4 rfl) rT (by rw [T8]; exact ce105))) (z9 en (fun w hw => zib q hk hf l hlq w) ?_)
 rintro v L' ⟨X, x, rfl, rfl⟩
 refine gw ?_
 refine j0 rfl rfl (dG rfl rfl) (fun h21 => gw ?_) (fun h21 => gw ?_)
 ·refine a9 (D7 (sT (sk (sk (sk (sd (sd (sd (sd (sd (sd (sd I8)))))))))) (sT (sk (sT (sk (sT (sk sr) (e5 (List.perm_middle (l₁ := [_, _, _, _, _, _, _]))))) (e5 (List.perm_middle (l₁ := [_, _, _, _, _, _, _, _]))))) (e5 (List.perm_middle (l₁ := [_, _, _, _, _, _, _, _, _]))))) ?_)
  exact ⟨none, 0, [], [], [], [], rfl, rfl, (aB (.inl h21)).symm, (cG (.inl h21)).symm, Nat.zero_le _, (fun p hp => by cases hp), fun p hp => by cases hp⟩
 ·by_cases hi : idxOk (s7 n) l
  ·refine aK en (fun w hw => (by have h := U2 (s7 n) hh X x l w hll (Rd.own (Rd.at 0 rfl) w hw); rw [decide_eq_true hi] at h; exact h : cR 87 #[iI (s7 n : Int), sL X l.length x] w (.bool true))) (gw ?_)
   refine D9 rfl rfl rfl (C7 rfl rfl) (fun h35 => gw ?_) (fun h35 => gw ?_)
   ·refine a9 (D7 (sT (sk (sk (sk (sd (sd (sd (sd (sd (sd (sd I8)))))))))) (sT (sk (sT (sk (sT (sk sr) (e5 (List.perm_middle (l₁ := [_, _, _, _, _, _, _]))))) (e5 (List.perm_middle (l₁ := [_, _, _, _, _, _, _, _]))))) (e5 (List.perm_middle (l₁ := [_, _, _, _, _, _, _, _, _]))))) ?_)
    exact ⟨none, 0, [], [], [], [], rfl, rfl, (aB (.inr (.inr h35))).symm, (cG (.inr (.inr h35))).symm, Nat.zero_le _, (fun p hp => by cases hp), fun p hp => by cases hp⟩
   ·refine m6 49 32 ?_
    refine l5 (γ := Nat × y8 × Nat) (mr 37 20 [9, 10]) (fun g => [(10, iI g.1), (9, sL g.2.1 g.1 g.2.2)]) (fun g => [OwnA 49 32 g.2.1 g.1 g.2.2 (m9 (M8 l r.its g.1)), OwnA 40 1 X l.length x (w6 l), Blk b7 83 [iI (s7 n : Int), sL A1 (T7 M).length c1, sL O 33 d], OwnA 173 33 A1 (T7 M).length c1 ((T7 M).flatMap L5), OwnA 49 32 O 33 d (m9 (H3 E)), Blk b5 100 (Y5 r), Blk b4 105 (bL q), Blk b3 76 [uI n, sL A M.length c]]) (fun g => g.1 ≤ l.length) (fun g => l.length - g.1) ((0, none, 0))
     (Nat.zero_le _) oa (sk (sk (sk (sk (sk (sk (sk (sk (sd (sd (sd I8))))))))))) ?_
    rintro ⟨k, O1, d1⟩ u hk2
    dsimp only at hk2
    have hil : r.its.length = l.length := Decidable.not_not.1 h35
    show TC _ _ _ (puts [(10, iI k), (9, sL O1 k d1)] (scr _ u _)) [OwnA 49 32 O1 k d1 (m9 (M8 l r.its k)), OwnA 40 1 X l.length x (w6 l), Blk b7 83 [iI (s7 n : Int), sL A1 (T7 M).length c1, sL O 33 d], OwnA 173 33 A1 (T7 M).length c1 ((T7 M).flatMap L5), OwnA 49 32 O 33 d (m9 (H3 E)), Blk b5 100 (Y5 r), Blk b4 105 (bL q), Blk b3 76 [uI n, sL A M.length c]]
    refine gw ?_
    refine j0 rfl rfl (p9 rfl rfl) (fun h40 => gw ?_) (fun h40 => gw ?_)
    ·refine D1 ([13], [10, 12]) mixed (sd (sk (sk (sk (sk (sk (sk (sk I8)))))))) (gw ?_)
     refine c6 3 rfl (i5 uT cT rfl rfl ow (x8 N3) (by rw [D5]; omega)) (c6 4 rfl (a8 rfl (A9 (v := uI ↑(l.getD k 0)) (x8 N3) oT (F6 ow))) (gw ?_))
     refine c6 8 rfl (i5 uT cT rfl rfl ow (c9 hI) (by rw [Z9]; omega)) (c6 9 rfl (a8 rfl (H4 (vs := u9 (r.its.getD k z8)) (c9 hI) rT (by rw [m0]; exact ce93) (by rw [m0]; decide) (bQ ow rfl))) (P5 10 rfl en (fun w hw => gG (l.getD k 0) (hll _ (E6 0 ow)) (r.its.getD k z8) w) ?_))
     rintro v L' ⟨Ot, dt, rfl, rfl⟩
     refine I7 11 rfl en (fun w hw => cQ (Y2 Ot dt (H9 (l.getD k 0) (r.its.getD k z8)) w (Rd.own (Rd.at 0 rfl) w hw) (by have := qL (l.getD k 0) (r.its.getD k z8); omega) (hT.at hw))) ?_
     refine aO 12 rfl (m5 (v := hv (K3 (H9 (l.getD k 0) (r.its.getD k z8)))) uT elem49 dc rfl (v9 _) (fun g55 => (G0 ?_)))
     refine V5 13 rfl (Q1 (news := L8 (K3 (H9 (l.getD k 0) (r.its.getD k z8)))) uT elem49 rfl rfl (j8 (cs := L8 (K3 (H9 (l.getD k 0) (r.its.getD k z8)))) w5) (by rw [l6]) (List.all_eq_true.1 (Y4 _)) kx (by have := hi.2.1; omega) (fun O3 d3 => (G0 (gw ?_))))
     refine p7 (gw ?_)
     exact ⟨(k + 1, O3, d3), od, od, oz, (by dsimp only; rw [zG]; exact sp)⟩
    ·refine i7 (c8 (c7 ?_))
     obtain rfl : k = l.length := by omega
     obtain ⟨m, k1, k2, k3, k4, k5, k6, k7, k8⟩ := FP hk hh (by rw [← hlq]; exact hi)
     rw [← hlq] at k6 k7
     refine e6 (a8 rfl (i4 (vs := [iI (s7 n : Int), sL A1 (T7 M).length c1, sL O 33 d]) aH rT ce83)) (gw ?_)
     refine z9 en (fun w hw => eZ E hE (s7 n) hh (T7 M) A1 c1 O d X x l hi w (by rw [bU]; omega) (cS lw) (Rd.own (Rd.at 3 rfl) w hw) (Rd.own (Rd.at 4 rfl) w hw) hll (Rd.own (Rd.at 1 rfl) w hw) (hT.at hw)) ?_
     rintro v L' ⟨Pw, qw, rfl, rfl⟩
     refine gw ?_
     refine e6 (Qt.dF (I5 rfl rfl) (hk)) (l3 (C4 rfl (c8 (c7 (e6 (x9 uT rfl ce3 rfl) (e6 (a8 rfl (i9 (v := iI (s7 n : Int)) tV oT rfl)) (e6 (x9 uT rfl ce40 rfl) (e6 (a8 rfl (i9 (v := uI (q.first : Int)) (s6 7 rfl) oT (rfl))) (e6 (x9 uT rfl ce3 rfl) (e6 (a8 rfl (i9 (v := iI m) (s6 7 rfl) oT (by rw [← k2]; rfl))) (z9 en (fun w hw => (by have k := gC (s7 n) q.first m hh k8 k3 k4 w; rw [← k7] at k; rw [← k7]; exact k : cP 91 #[iI (s7 n : Int), uI (q.first : Int), iI m] w fun v L => ∃ A1 c1 A2 c2, v = .tuple #[sL A1 (l4 q.first (s7 n)).length c1, sL A2 (j6 (q.first + l.length - 1) (s7 n)).length c2] ∧ L = [OwnA 265 2 A1 (l4 q.first (s7 n)).length c1 (iQ (l4 q.first (s7 n))), OwnA 265 2 A2 (j6 (q.first + l.length - 1) (s7 n)).length c2 (iQ (j6 (q.first + l.length - 1) (s7 n)))])) ?_)))))))))))
     rintro v L' ⟨S1, z1, S2, z2, rfl, rfl⟩
     refine gw ?_
     refine dw ([], [7, 10, 17]) (gw ?_)
     refine c6 5 rfl (a8 rfl (i4 (vs := [iI (s7 n : Int), sL A1 (T7 M).length c1, sL O 33 d]) (s6 5 rfl) rT ce83)) (gw ?_)
     refine c6 8 rfl (a8 rfl (i4 (vs := [iI (s7 n : Int), sL A1 (T7 M).length c1, sL O 33 d]) (s6 5 rfl) rT ce83)) (gw ?_)
     refine c6 13 rfl (a8 rfl (i9 (v := sL r.P r.pa.length r.p) (s6 8 rfl) oT (nI r))) (gw ?_)
     refine c6 15 rfl (a8 rfl (i9 (v := sL r.Q r.pb.length r.q) (s6 8 rfl) oT (nJ r))) (P5 7 rfl en (fun w hw => sE E hE (s7 n) hh (T7 M) A1 c1 O d S1 z1 (l4 q.first (s7 n)) (EW ow) (by have := bI q.first (s7 n); omega) w (by rw [bU]; omega) (cS lw) (Rd.own (Rd.at 6 rfl) w hw) (Rd.own (Rd.at 7 rfl) w hw) (Rd.own (Rd.at 0 rfl) w hw) (hT.at hw)) ?_)
     rintro v L' ⟨P1, q1, rfl, rfl⟩
     refine P5 10 rfl en (fun w hw => sE E hE (s7 n) hh (T7 M) A1 c1 O d S2 z2 (j6 (q.first + l.length - 1) (s7 n)) (EY ow) (by have := Y3 (q.first + l.length - 1) (s7 n); omega) w (by rw [bU]; omega) (cS lw) (Rd.own (Rd.at 7 rfl) w hw) (Rd.own (Rd.at 8 rfl) w hw) (Rd.own (Rd.at 2 rfl) w hw) (hT.at hw)) ?_
     rintro v L' ⟨P2, q2, rfl, rfl⟩
     refine c6 16 rfl (n8 (rJ (vs := [sL Pw l.length qw, sL P1 (l4 q.first (s7 n)).length q1, sL P2 (j6 (q.first + l.length - 1) (s7 n)).length q2, sL O1 l.length d1, sL r.P r.pa.length r.p, sL r.Q r.pb.length r.q]) uT cT ze41 rfl (by intro v hv; simp only [List.mem_cons, List.not_mem_nil, or_false] at hv; rcases hv with rfl | rfl | rfl | rfl | rfl | rfl <;> rfl) (Nat.le_refl _)) (show _ = Value.agg #[sL Pw l.length qw, sL P1 (l4 q.first (s7 n)).length q1, sL P2 (j6 (q.first + l.length - 1) (s7 n)).length q2, sL O1 l.length d1, sL r.P r.pa.length r.p, sL r.Q r.pb.length r.q] from rfl)) (aO 17 rfl (l8 (Pre := []) (R := _) (⟨_, func18, by kernel_rfl, rfl⟩ : p8 prog 18) rfl pr (fun w hw => (by have k := zee (s7 n : Int) q.first Pw qw (l.map (fun x => s5 (fL E (T7 M)) 0 x)) P1 q1 ((l4 q.first (s7 n)).map (fun a : Nat × Nat => s5 (fL E (T7 M)) a.1 a.2)) P2 q2 ((j6 (q.first + l.length - 1) (s7 n)).map (fun a : Nat × Nat => s5 (fL E (T7 M)) a.1 a.2)) O1 d1 (M8 l r.its l.length) r.P r.p r.pa r.Q r.q r.pb hf w (Rd.own (Rd.at 4 rfl) w hw) (Rd.own (Rd.at 1 rfl) w hw) (Rd.own (Rd.at 0 rfl) w hw) (Rd.own (Rd.at 5 rfl) w hw) (Rd.ro hP2 w hw) (Rd.ro hQ2 w hw) (hT.at hw); simp only [List.length_map, U7] at k; exact (by simp only [List.length_map, U7]; exact k) : cP 18 #[iI (s7 n : Int), uI (q.first : Int), .agg #[sL Pw l.length qw, sL P1 (l4 q.first (s7 n)).length q1, sL P2 (j6 (q.first + l.length - 1) (s7 n)).length q2, sL O1 l.length d1, sL r.P r.pa.length r.p, sL r.Q r.pb.length r.q]] w fun v L => fF 115 (if (l.map (fun x => s5 (fL E (T7 M)) 0 x)).length = (M8 l r.its l.length).length then D4 (L6 (s7 n : Int) q.first (l.map (fun x => s5 (fL E (T7 M)) 0 x)) ((l4 q.first (s7 n)).map (fun a : Nat × Nat => s5 (fL E (T7 M)) a.1 a.2)) ((j6 (q.first + l.length - 1) (s7 n)).map (fun a : Nat × Nat => s5 (fL E (T7 M)) a.1 a.2))) (L6 (s7 n : Int) q.first (M8 l r.its l.length) r.pa r.pb) else []) v L)) ?_))
     rintro v L' ⟨O4, d4, pp, Ls, rfl, rfl, e1, e2, e3⟩
     refine G0 (gw ?_)
     refine p7 (gw ?_)
     refine D1 ([8], [4, 7]) mixed (sd (sk (sk (sk (sk (sk (sk (sk (sk (sk (sk (sk (sk (sk (sk I8))))))))))))))) (gw ?_)
     refine c6 2 rfl (a8 rfl (i4 (vs := [uI n, sL A M.length c]) (s6 14 rfl) rT ce76)) (gw ?_)
     refine P5 4 rfl en (fun w hw => nE n A c M hl X x l (by have := hi.2.1; omega) w lw (Rd.ro hM w hw) hll (Rd.own (Rd.at 8 rfl) w hw)) ?_
     rintro v L' ⟨O7, d7, rfl, rfl⟩
     refine P5 7 rfl en (fun w hw => (by have k := mK X x l (by have := hi.2.1; omega) O7 d7 (l.map (Z0 M)) r.I r.i r.its w hll (Rd.own (Rd.at 9 rfl) w hw) (Rd.own (Rd.at 0 rfl) w hw) (Rd.ro hI w hw); simp only [List.length_map] at k; exact k : cP 11 #[sL X l.length x, sL O7 l.length d7, sL r.I r.its.length r.i] w fun v L => fF 115 (D4 (M6 l (l.map (Z0 M))) (M6 l r.its)) v L)) ?_
     rintro v L' ⟨O8, d8, qq, Ls2, rfl, rfl, f1, f2, f3⟩
     refine V5 8 rfl (S9 (news := qq.flatMap aZ) uT elem115 rfl rfl (x8 w5) (wV qq) (wW qq) kx ow (fun O9 d9 => (G0 (gw ?_))))
     refine p7 (a9 (D7 (sx [3, 3, 1]) ?_))
     have hb := tP h21 hi h35
     refine ⟨_, _, pp, qq, Ls, Ls2, rfl, rfl, ?_, ?_, ?_, e3, f3⟩
     ·rw [uC hb hk]; exact e1
     ·rw [wZ hb]; exact f1
     ·have a1 := congrArg List.length e1; have a2 := congrArg List.length f1; rw [List.length_map] at a1 a2; have b1 := rA (z := (s7 n : Int)) (f := q.first) (l.map (fun x => s5 (fL E (T7 M)) 0 x)) ((l4 q.first (s7 n)).map (fun a : Nat × Nat => s5 (fL E (T7 M)) a.1 a.2)) ((j6 (q.first + l.length - 1) (s7 n)).map (fun a : Nat × Nat => s5 (fL E (T7 M)) a.1 a.2)) (M8 l r.its l.length) r.pa r.pb; have b2 := eU hi.2.1 (l.map (Z0 M)) r.its; omega
  ·refine aK en (fun w hw => (by have h := U2 (s7 n) hh X x l w hll (Rd.own (Rd.at 0 rfl) w hw); rw [decide_eq_false hi] at h; exact h : cR 87 #[iI (s7 n : Int), sL X l.length x] w (.bool false))) (gw ?_)
   refine a9 (D7 (sT (sk (sk (sk (sd (sd (sd (sd (sd (sd (sd I8)))))))))) (sT (sk (sT (sk (sT (sk sr) (e5 (List.perm_middle (l₁ := [_, _, _, _, _, _, _]))))) (e5 (List.perm_middle (l₁ := [_, _, _, _, _, _, _, _]))))) (e5 (List.perm_middle (l₁ := [_, _, _, _, _, _, _, _, _]))))) ?_)
   exact ⟨none, 0, [], [], [], [], rfl, rfl, (aB (.inr (.inl hi))).symm, (cG (.inr (.inl hi))).symm, Nat.zero_le _, (fun p hp => by cases hp), fun p hp => by cases hp⟩
theorem yZ {C : Ctx} {L : List Assn} {w : World} (hw : St C.w0 C.M L w) {A : Assn} (h : Ro C.w0 C.M A) : Ro w [] A := Rd.ro h w hw
theorem _root_.Go.E.ReqA.Ok.go0 {C : Ctx} {L : List Assn} {w : World} {q : ReqA} (h : q.Ok C.w0) (hw : St C.w0 C.M L w) (hM : C.M = [] := by rfl) : q.Ok w := ⟨h.cap, h.low, h.lt, h.lo, h.hi, yZ hw (hM ▸ h.ro)⟩
theorem _root_.Go.E.RepA.Ok.go0 {C : Ctx} {L : List Assn} {w : World} {p : RepA} (h : p.Ok C.w0) (hw : St C.w0 C.M L w) (hM : C.M = [] := by rfl) : p.Ok w := ⟨h.capi, h.capp, h.capq, yZ hw (hM ▸ h.roi), yZ hw (hM ▸ h.rop), yZ hw (hM ▸ h.roq)⟩
theorem _root_.Go.E.OrdA.Ok.go0 {C : Ctx} {L : List Assn} {w : World} {x : OrdA} (h : x.Ok C.w0) (hw : St C.w0 C.M L w) (hM : C.M = [] := by rfl) : x.Ok w := ⟨h.cap, h.low, h.blk, yZ hw (hM ▸ h.ro), yZ hw (hM ▸ h.rs)⟩
theorem HQ {leaf : Nat → i6} {node : Nat × Nat → i6} {path : Nat → List i6} {n : Nat} {o : Order} {err : Int} {pa pb : List i6} : ∀ q ∈ gD leaf node path n o err pa pb, q.1.length ≤ 70368744177664 ∧ q.2.length ≤ 70368744177664 := fun q hq => by
 unfold gD at hq
 split at hq
 ·cases hq
 ·split at hq
  ·exact kQ (pH _ _ _ _) (pH _ _ _ _) q hq
  ·split at hq
   ·exact kQ (EI _ _ _) (EI _ _ _) q hq
   ·cases hq
theorem J70 : p8 prog 70 := ⟨_, func70, by kernel_rfl, rfl⟩
theorem J71 : p8 prog 71 := ⟨_, func71, by kernel_rfl, rfl⟩
theorem zbE (E : Nat → i6) (hEr : ∀ w, Tabs 2 0 w [] → cP 137 #[] w fun v L => ∃ O d, v = sL O 33 d ∧ L = [OwnA 49 32 O 33 d (m9 (H3 E))]) (hE : ∀ h, E (h + 1) = F8 (h + 1) (E h) (E h)) (n : Nat) (A) (c : Nat) (M : Sm) (hl : M.length ≤ 4095) (hon : fE n) (x : OrdA) (hss : x.o.ss.length ≤ 65536) (hxx : x.o.xs.length ≤ 65536) (hob : x.o.blocks < 18446744073709551616) (hn64 : n < 18446744073709551616) (hxc : x.o.xs.length ≤ x.c) (r : RepB) (w0) (lw : ∀ y ∈ M, y.1 < 18446744073709551616) (hM : Ro w0 [] (SlA A (M.flatMap M9))) (hlx : ∀ y ∈ x.o.xs, y < 18446744073709551616) (hR : Ro w0 [] (SlA x.A (w6 x.o.xs))) (hS : Ro w0 [] (SlA x.B (x.o.ss.flatMap o4))) (hP2 : Ro w0 [] (SlA r.P (m9 r.pa))) (hQ2 : Ro w0 [] (SlA r.Q (m9 r.pb))) (hT : Tabs 2 0 w0 []) :
  cP 36 #[.agg #[uI n, sL A M.length c], .agg (M7 x).toArray, .agg (Y5 r).toArray] w0 fun v L => fF 115 (gD (fun x => s5 (fL E (T7 M)) 0 x) (fun a : Nat × Nat => s5 (fL E (T7 M)) a.1 a.2) (fun i => gA (fL E (T7 M)) (s7 n) i) n x.o r.err r.pa r.pb) v L := by
 refine co 69 [.tmp 6] func36 ?_
 have hh := aL hon
 refine m6 115 2 (x3 (gw ?_))
 intro b3
 refine gw ?_
 intro b4
 refine gw ?_
 intro b5
 refine gw ?_
 refine j0 rfl rfl (dG rfl rfl) (fun h11 => gw ?_) (fun h11 => gw ?_)
 ·refine a9 (D7 (sx [4, 3]) ?_)
  exact ⟨none, 0, [], [], rfl, rfl, (bK (.inl h11)).symm, Nat.zero_le _, fun p hp => by cases hp⟩
 ·refine E8 rfl rfl rfl (a8 rfl (i4 (vs := M7 x) N3 rT ce96)) (gw ?_)
  by_cases hf : T6 x.o n
  ·refine aK en (fun w hw => (by have h := oL x hss hxx n w hlx (Rd.ro hR w hw) (Rd.ro hS w hw); rw [decide_eq_true hf] at h; exact h : cR 70 #[.agg (M7 x).toArray, uI n] w (.bool true))) (gw ?_)
   refine e6 (a8 rfl (i4 (vs := [uI n, sL A M.length c]) aH rT ce76)) (z9 en (fun w hw => gH E hEr n A c M hl hon w lw (Rd.ro hM w hw) (hT.at hw)) ?_)
   rintro v L' ⟨A1, c1, O, d, rfl, rfl⟩
   refine gw ?_
   intro b7
   refine j9 rfl (j5 (v := .agg #[iI (s7 n : Int), sL A1 (T7 M).length c1, sL O 33 d]) rfl rfl (by exact ce83) (by rfl) (by rfl) (gw ?_))
   refine j0 rfl rfl (dG rfl rfl) (fun h23 => gw ?_) (fun h23 => gw ?_)
   ·refine dw ([], [7, 11, 16]) (gw ?_)
    refine c6 4 rfl (a8 rfl (i4 (vs := [iI (s7 n : Int), sL A1 (T7 M).length c1, sL O 33 d]) w5 rT ce83)) (gw ?_)
    refine c6 8 rfl (a8 rfl (i4 (vs := [iI (s7 n : Int), sL A1 (T7 M).length c1, sL O 33 d]) w5 rT ce83)) (gw ?_)
    refine c6 13 rfl (a8 rfl (i9 (v := sL r.P r.pa.length r.p) tV oT (nI r))) (gw ?_)
    refine c6 15 rfl (a8 rfl (i9 (v := sL r.Q r.pb.length r.q) tV oT (nJ r))) (P5 7 rfl en (fun w hw => eZ E hE (s7 n) hh (T7 M) A1 c1 O d x.A x.c x.o.xs (gZ hon hf h23) w (by rw [bU]; omega) (cS lw) (Rd.own (Rd.at 1 rfl) w hw) (Rd.own (Rd.at 2 rfl) w hw) hlx (Rd.ro hR w hw) (hT.at hw)) ?_)
    rintro v L' ⟨Pw, qw, rfl, rfl⟩
    refine P5 11 rfl en (fun w hw => pN E hE (s7 n) hh (T7 M) A1 c1 O d x.A x.c x.o.xs (gZ hon hf h23) w (by rw [bU]; omega) (cS lw) (Rd.own (Rd.at 2 rfl) w hw) (Rd.own (Rd.at 3 rfl) w hw) hlx (Rd.ro hR w hw) (hT.at hw)) ?_
    rintro v L' ⟨Pb, qb2, rfl, rfl⟩
    refine P5 16 rfl en (fun w hw => (by have k := ER (s7 n : Int) x.A x.c x.o.xs hxc Pw qw (x.o.xs.map (fun x => s5 (fL E (T7 M)) 0 x)) Pb qb2 ((l7 (s7 n) x.o.xs 0).map (fun a : Nat × Nat => s5 (fL E (T7 M)) a.1 a.2)) r.P r.p r.pa r.Q r.q r.pb w hlx (Rd.ro hR w hw) (Rd.own (Rd.at 1 rfl) w hw) (Rd.own (Rd.at 0 rfl) w hw) (Rd.ro hP2 w hw) (Rd.ro hQ2 w hw) (hT.at hw); simp only [List.length_map] at k; exact k : cP 89 #[iI (s7 n : Int), sL x.A x.o.xs.length x.c, sL Pw x.o.xs.length qw, sL Pb (l7 (s7 n) x.o.xs 0).length qb2, sL r.P r.pa.length r.p, sL r.Q r.pb.length r.q] w fun v L => fF 115 (D4 (I3 (s7 n : Int) x.o.xs (x.o.xs.map (fun x => s5 (fL E (T7 M)) 0 x)) ((l7 (s7 n) x.o.xs 0).map (fun a : Nat × Nat => s5 (fL E (T7 M)) a.1 a.2))) (I3 (s7 n : Int) x.o.xs r.pa r.pb)) v L)) ?_
    rintro v L' ⟨O4, d4, pp, Ls, rfl, rfl, e1, e2, e3⟩
    refine gw ?_
    refine p7 (a9 (D7 (sx [0, 0]) ?_))
    refine ⟨O4, d4, pp, Ls, rfl, rfl, ?_, e2, e3⟩
    rw [cL h11 hf h23]; exact e1
   ·refine j0 rfl rfl (T0 rfl rfl) (fun h45 => gw ?_) (fun h45 => gw ?_)
    ·refine a9 (D7 (sT (sk (sk (sd (sd (sd (sd (sd (sd I8)))))))) (sT (sk (sT (sk sr) (e5 pm6))) (e5 (List.perm_middle (l₁ := [_, _, _, _, _, _, _]))))) ?_)
     exact ⟨none, 0, [], [], rfl, rfl, (iL h11 hf h23 (fun h => by omega)).symm, Nat.zero_le _, fun p hp => by cases hp⟩
    ·refine E8 rfl rfl rfl (a8 rfl (i9 (v := sL r.P r.pa.length r.p) tV oT (nI r))) (gw ?_)
     refine D9 rfl rfl rfl (C7 (b := 1) rfl rfl) (fun h50 => gw ?_) (fun h50 => gw ?_)
     ·refine a9 (D7 (sT (sk (sk (sd (sd (sd (sd (sd (sd I8)))))))) (sT (sk (sT (sk sr) (e5 pm6))) (e5 (List.perm_middle (l₁ := [_, _, _, _, _, _, _]))))) ?_)
      exact ⟨none, 0, [], [], rfl, rfl, (iL h11 hf h23 (fun h => h50 h.2)).symm, Nat.zero_le _, fun p hp => by cases hp⟩
     ·refine e6 (o7 (b := 1) rfl rfl (by have := (N5 hf (Decidable.not_not.1 h23)).1; omega) km) (gw ?_)
      refine dw ([], [6, 13]) (gw ?_)
      refine c6 1 rfl (a8 rfl (i4 (vs := [iI (s7 n : Int), sL A1 (T7 M).length c1, sL O 33 d]) w5 rT ce83)) (gw ?_)
      refine I7 3 rfl en (fun w hw => (jK E hE (s7 n) hh (T7 M) A1 c1 O d 0 (x.o.blocks - 1) (JE (by have := gK hon; have := (N5 hf (Decidable.not_not.1 h23)).1; omega)) w (by rw [bU]; omega) (cS lw) (Rd.own (Rd.at 1 rfl) w hw) (Rd.own (Rd.at 2 rfl) w hw) (hT.at hw) : cR 73 #[.agg #[iI (s7 n : Int), sL A1 (T7 M).length c1, sL O 33 d], iI 0, uI ↑(x.o.blocks - 1)] w (hv (s5 (fL E (T7 M)) 0 (x.o.blocks - 1))))) ?_
      refine c6 4 rfl (a8 rfl (i4 (vs := [iI (s7 n : Int), sL A1 (T7 M).length c1, sL O 33 d]) w5 rT ce83)) (gw ?_)
      refine c6 8 rfl (a8 rfl (i9 (v := sL r.P r.pa.length r.p) tV oT (nI r))) (c6 9 rfl (i5 (i := 0) uT cT rfl rfl ow (c9 hP2) (by rw [m7]; omega)) (c6 10 rfl (a8 rfl (E4 (c9 hP2) 0 rT ce49 ow rfl)) (gw ?_)))
      refine c6 12 rfl (a8 rfl (i9 (v := sL r.Q r.pb.length r.q) tV oT (nJ r))) (P5 6 rfl en (fun w hw => zec E hE (s7 n) hh (T7 M) A1 c1 O d (x.o.blocks - 1) (by have := gK hon; have := (N5 hf (Decidable.not_not.1 h23)).1; omega) w (by rw [bU]; omega) (cS lw) (Rd.own (Rd.at 1 rfl) w hw) (Rd.own (Rd.at 2 rfl) w hw) (hT.at hw)) ?_)
      rintro v L' ⟨Pq, pq, rfl, rfl⟩
      refine P5 13 rfl en (fun w hw => (by have k := zhC (x.o.blocks - 1) (s5 (fL E (T7 M)) 0 (x.o.blocks - 1)) Pq pq (gA (fL E (T7 M)) (s7 n) (x.o.blocks - 1)) (r.pa.getD 0 e7) r.Q r.q r.pb ow w (Rd.own (Rd.at 0 rfl) w hw) (Rd.ro hQ2 w hw) (hT.at hw); rw [zbu] at k; exact k : cP 97 #[uI ↑(x.o.blocks - 1), hv (s5 (fL E (T7 M)) 0 (x.o.blocks - 1)), sL Pq (s7 n) pq, hv (r.pa.getD 0 e7), sL r.Q r.pb.length r.q] w fun v L => fF 115 (D4 (S6 (s5 (fL E (T7 M)) 0 (x.o.blocks - 1)) (x.o.blocks - 1) (gA (fL E (T7 M)) (s7 n) (x.o.blocks - 1))) (S6 (r.pa.getD 0 e7) (x.o.blocks - 1) r.pb)) v L)) ?_
      rintro v L' ⟨O4, d4, pp, Ls, rfl, rfl, e1, e2, e3⟩
      refine gw ?_
      refine p7 (a9 (D7 (sx [0, 0]) ?_))
      refine ⟨O4, d4, pp, Ls, rfl, rfl, ?_, e2, e3⟩
      rw [fB h11 hf h23 ow (Decidable.not_not.1 h50)]; exact e1
  ·refine aK en (fun w hw => (by have h := oL x hss hxx n w hlx (Rd.ro hR w hw) (Rd.ro hS w hw); rw [decide_eq_false hf] at h; exact h : cR 70 #[.agg (M7 x).toArray, uI n] w (.bool false))) (gw ?_)
   refine a9 (D7 (sx [4, 3]) ?_)
   exact ⟨none, 0, [], [], rfl, rfl, (bK (.inr hf)).symm, Nat.zero_le _, fun p hp => by cases hp⟩
theorem zix (qb n sm tb : Nat) (Y : Sm) (hY : Y.length ≤ 4096) (w0) (hQ : Ro w0 [] (Blk qb 160 [uI n, .map (some sm), pZ tb])) (hSm : Ro w0 [] (u6 sm Q9 sv Y)) : cR 28 #[pZ qb] w0 (iI (Y.length : Int)) := by
 refine cQ (co 10 [.tmp 2] func28 ?_)
 refine gw ?_
 refine e6 (zdd uT rfl (c9 hSm)) (gw ?_)
 exact tR
set_option maxRecDepth 8000 in
theorem zbJ (E : Nat → i6) (hEm : ∀ w, Tabs 3 1 w [] → Calls prog 55 #[] w (nX w (.agg (m9 (H3 E)).toArray))) (hE0 : E 0 = K3 [0]) (hE : ∀ h, E (h + 1) = F8 (h + 1) (E h) (E h)) (n0 : Nat) (hon : fE n0) (OA : y8) (oc : Nat) (os : List OrdA) (hln : os.length ≤ 20) (hbig : ∀ o ∈ os, ¬ uQ o) (w0 : World) (hO : Ro w0 [] (SlA OA (os.flatMap M7))) (hos : ∀ o ∈ os, o.Ok w0) (hT : Tabs 3 1 w0 []) :
  Calls prog 23 #[.int .u64 (n0 : Int), .slice OA os.length oc] w0 (D0 w0 [] fun v L => ∃ (qb sm n tb mb : Nat) (Y : Sm) (ms : Tm) (M : Sm) (A1 : y8) (c1 : Nat), v = .tuple #[.pointer (some ⟨qb, 0, none⟩), .agg #[.int .u64 (n : Int), .slice A1 M.length c1], .bool true] ∧ L = [Blk qb 160 [.int .u64 (n : Int), .map (some sm), .pointer (some ⟨tb, 0, none⟩)], u6 sm Q9 sv Y, Blk tb 243 (q7 E (s7 n) mb), u6 mb p6 hv ms, OwnA 170 50 A1 (M).length c1 ((M).flatMap M9)] ∧ TruOk E n Y ms 240 ∧ DocOk Y M 240) := by
 refine co 55 [.tmp 4, .cell 5 76, .tmp 6] func23 ?_
 refine gw ?_
 intro b5
 refine gw ?_
 refine z9 J21 (fun w hw => wC E hEm n0 hon w (hT.at hw)) ?_
 rintro v L' ⟨qb, sm, tb, mb, rfl, rfl⟩
 refine gw ?_
 refine e6 (C8 (v := .agg #[.int .u64 (n0 : Int), .slice none 0 0]) rfl (fun _ => by kernel_rfl)) (gw ?_)
 intro b9
 refine j9 rfl (j5 rfl cw (by exact ce76) (by rfl) (by rfl) ?_)
 refine gw ?_
 refine m6 170 50 ?_
 refine l5 (γ := Nat × Nat × (Nat × Nat) × (Sm × Tm) × Sm × y8 × Nat) [27, 28, 29, 11, 30, 31, 12, 13, 36, 37, 38, 35, 40, 41, 42, 43, 44, 39, 32, 33, 34, 45, 46, 47, 48, 49, 50, 51, 4, 6, 52, 26] (fun g => [(26, .int .i64 ((g.1 : Nat) : Int))]) (fun g => [Blk qb 160 [.int .u64 (g.2.1 : Int), .map (some sm), .pointer (some ⟨g.2.2.1.1, 0, none⟩)], u6 sm Q9 sv g.2.2.2.1.1, Blk g.2.2.1.1 243 (q7 E (s7 g.2.1) g.2.2.1.2), u6 g.2.2.1.2 p6 hv g.2.2.2.1.2, Blk b9 76 [.int .u64 (g.2.1 : Int), .slice g.2.2.2.2.2.1 (g.2.2.2.2.1).length g.2.2.2.2.2.2], OwnA 170 50 g.2.2.2.2.2.1 (g.2.2.2.2.1).length g.2.2.2.2.2.2 ((g.2.2.2.2.1).flatMap M9), Blk b5 76 [.int .u64 0, .slice none 0 0]]) (fun g => g.1 ≤ os.length ∧ TruOk E g.2.1 g.2.2.2.1.1 g.2.2.2.1.2 (12 * g.1) ∧ DocOk g.2.2.2.1.1 g.2.2.2.2.1 (12 * g.1)) (fun g => os.length - g.1) ((0, n0, (tb, mb), ([], []), [], none, 0))
  ⟨Nat.zero_le _, zeB hE hE0 hon, DocOk.nil⟩ ⟨Out.refl _ _, ag⟩ (Sub.trans (sk (Sub.trans (sk (Sub.trans (sk (Sub.trans (sk (Sub.trans (sk sr) (e5 pm1))) (e5 pm2))) (e5 pm2))) (e5 pm2))) (e5 pm2)) ?_
 rintro ⟨k, n, ⟨tb, mb⟩, ⟨Y, ms⟩, M, A1, c1⟩ u ⟨hk, hok, hdk⟩
 dsimp only at hk hok hdk
 refine gw ?_
 refine j0 rfl rfl (p9 rfl rfl) (fun h27 => gw ?_) (fun h27 => gw ?_)
 ·refine e6 (i5 uT cT rfl rfl ow (c9 hO) (by rw [wJ]; omega)) ?_
  refine e6 (a8 rfl (H4 (vs := M7 (os.getD k C6)) (c9 hO) rT ce58 (by rw [R7]; decide) (GZ ow rfl))) (gw ?_)
  intro b11
  refine j9 rfl (j5 (v := .agg (M7 (os.getD k C6)).toArray) rfl rfl (by exact ce58) (kO _) (by rfl) ?_)
  have hoo := hos (os.getD k C6) (E6 C6 ow)
  have hbo := hbig (os.getD k C6) (E6 C6 ow)
  refine gw ?_
  unfold uQ at hbo
  refine e6 (a8 rfl (i4 (vs := M7 (os.getD k C6)) w5 rT ce58)) ?_
  refine z9 J37 (fun w hw => jG (os.getD k C6) ow w (Rd.ro hoo.rs w hw)) ?_
  rintro v L' ⟨B2, d2, rfl, rfl⟩
  refine gw ?_
  intro b12
  refine j9 rfl (j5 (v := .agg (M7 (⟨(os.getD k C6).A, (os.getD k C6).c, B2, d2, (os.getD k C6).o⟩ : OrdA)).toArray) rfl rfl (by exact ce96) (kO _) (by rfl) ?_)
  refine l3 (c8 (c7 (C3 ?_)))
  refine l3 ?_
  refine Q8 (γ := Sm × y8 × Nat) [36, 37, 38, 35, 13, 40, 41, 42, 43, 44, 39, 32, 33, 34] (fun g2 => [(13, .int .i64 ((yC (os.getD k C6).o n : Nat) : Int))]) (fun g2 => [Blk b9 76 [.int .u64 ((BK (os.getD k C6).o n) : Int), .slice g2.2.1 (g2.1).length g2.2.2], OwnA 170 50 g2.2.1 (g2.1).length g2.2.2 ((g2.1).flatMap M9), Blk qb 160 [.int .u64 (n : Int), .map (some sm), .pointer (some ⟨tb, 0, none⟩)], u6 sm Q9 sv Y, Blk tb 243 (q7 E (s7 n) mb), u6 mb p6 hv ms, Blk b11 58 (M7 (os.getD k C6)), Blk b5 76 [.int .u64 0, .slice none 0 0]]) (fun g2 => DocOk (CN (os.getD k C6).o n Y) g2.1 (12 * k + (os.getD k C6).o.xs.length)) ?_ ?_
  ·refine gw ?_
   refine e6 (a8 rfl (i4 (vs := M7 (⟨(os.getD k C6).A, (os.getD k C6).c, B2, d2, (os.getD k C6).o⟩ : OrdA)) w5 rT ce96)) ?_
   by_cases hr : A7 (os.getD k C6).o
   ·refine u7 J69 (fun w hw => (by have h := lS (⟨(os.getD k C6).A, (os.getD k C6).c, B2, d2, (os.getD k C6).o⟩ : OrdA) (by show (os.getD k C6).o.ss.length ≤ 65536; omega) (by show (os.getD k C6).o.xs.length ≤ 65536; omega) w hoo.low (Rd.ro hoo.ro w hw) (Rd.own (Rd.at 1 rfl) w hw); rw [decide_eq_true hr] at h; exact h : Calls prog 69 #[.agg (M7 (⟨(os.getD k C6).A, (os.getD k C6).c, B2, d2, (os.getD k C6).o⟩ : OrdA)).toArray] w (nX w (.bool true)))) (gw ?_)
    refine e6 (a8 rfl (i4 (vs := M7 (⟨(os.getD k C6).A, (os.getD k C6).c, B2, d2, (os.getD k C6).o⟩ : OrdA)) w5 rT ce96)) (gw ?_)
    by_cases hf : T6 (os.getD k C6).o n
    ·refine u7 J70 (fun w hw => (by have h := oL (⟨(os.getD k C6).A, (os.getD k C6).c, B2, d2, (os.getD k C6).o⟩ : OrdA) (by show (os.getD k C6).o.ss.length ≤ 65536; omega) (by show (os.getD k C6).o.xs.length ≤ 65536; omega) n w hoo.low (Rd.ro hoo.ro w hw) (Rd.own (Rd.at 1 rfl) w hw); rw [decide_eq_true hf] at h; exact h : Calls prog 70 #[.agg (M7 (⟨(os.getD k C6).A, (os.getD k C6).c, B2, d2, (os.getD k C6).o⟩ : OrdA)).toArray, .int .u64 (n : Int)] w (nX w (.bool true)))) (gw ?_)
     refine e6 (a8 rfl (i4 (vs := [.int .u64 (n : Int), .slice A1 M.length c1]) (s6 7 rfl) rT ce76)) ?_
     refine e6 (a8 rfl (i4 (vs := M7 (⟨(os.getD k C6).A, (os.getD k C6).c, B2, d2, (os.getD k C6).o⟩ : OrdA)) w5 rT ce96)) ?_
     by_cases hk3 : (os.getD k C6).o.kind = 3
     ·refine z7 (l8 (Pre := [OwnA 170 50 A1 (M).length c1 ((M).flatMap M9)]) (R := _) J71 rfl (List.perm_middle (l₁ := [_, _, _, _, _, _, _, _])) (fun w hw => zdz n A1 c1 M (by have := hdk.len; omega) (⟨(os.getD k C6).A, (os.getD k C6).c, B2, d2, (os.getD k C6).o⟩ : OrdA) hk3 w hdk.low hw.sat.left) ?_)
      rintro v L' ⟨A2, c2, rfl, rfl⟩
      refine j9 rfl (jY rfl cw (by exact ce76) (by rfl) (by rfl) ?_)
      have eE : yC (os.getD k C6).o n = 0 := by rw [yC, if_pos hf]
      have eN : BK (os.getD k C6).o n = (os.getD k C6).o.blocks := by rw [BK, if_pos ⟨hf, hk3⟩]
      have eS : CN (os.getD k C6).o n Y = dH (os.getD k C6).o.blocks Y := by rw [CN, if_pos hf, if_pos hk3]
      refine gw ?_
      refine ⟨(dH (os.getD k C6).o.blocks M, A2, c2), ?_, ⟨?_, (List.forall_mem_cons.2 ⟨(by show _ = Value.int .i64 ((yC (os.getD k C6).o n : Nat) : Int); rw [eE]; rfl), (fun _ h => nomatch h)⟩)⟩, (by dsimp only; rw [eN]; exact Sub.trans (sk (sk (sk (sk (sk (sk (sk (sk (sd (sd I8)))))))))) (Sub.trans (sk (sk (Sub.trans (sk (Sub.trans (sk (Sub.trans (sk (Sub.trans (sk (Sub.trans (sk (Sub.trans (sk sr) (e5 pm2))) (e5 pm2))) (e5 pm3))) (e5 pm3))) (e5 pm3))) (e5 pm3)))) (e5 (List.perm_middle (l₁ := [_, _, _, _, _, _, _, _])))))⟩
      ·show DocOk _ _ _; dsimp only; rw [eS]; exact (hdk.cut _).mono ow
      exact K8
     ·refine z7 (l8 (Pre := [OwnA 170 50 A1 (M).length c1 ((M).flatMap M9)]) (R := _) J71 rfl (List.perm_middle (l₁ := [_, _, _, _, _, _, _, _])) (fun w hw => zdA n A1 c1 M (by have := hdk.len; omega) (⟨(os.getD k C6).A, (os.getD k C6).c, B2, d2, (os.getD k C6).o⟩ : OrdA) Y hok.nd (12 * k) (by show 12 * k + (os.getD k C6).o.xs.length ≤ 4095; omega) hdk hr hk3 hoo.low w hdk.low hw.sat.left (u5 hw hoo.ro) (Ro.own (y9 (A := (OwnA 91 49 B2 (os.getD k C6).o.ss.length d2 ((os.getD k C6).o.ss.flatMap o4))) hw (List.mem_of_getElem? (i := 1) rfl)))) ?_)
      rintro v L' ⟨M2, A2, c2, rfl, rfl, hd2⟩
      refine j9 rfl (jY rfl cw (by exact ce76) (by rfl) (by rfl) ?_)
      have eE : yC (os.getD k C6).o n = 0 := by rw [yC, if_pos hf]
      have eN : BK (os.getD k C6).o n = n := by rw [BK, if_neg fun h => hk3 h.2]
      have eS : CN (os.getD k C6).o n Y = kV (os.getD k C6).o Y (os.getD k C6).o.xs.length := by rw [CN, if_pos hf, if_neg hk3]
      refine gw ?_
      refine ⟨(M2, A2, c2), ?_, ⟨?_, (List.forall_mem_cons.2 ⟨(by show _ = Value.int .i64 ((yC (os.getD k C6).o n : Nat) : Int); rw [eE]; rfl), (fun _ h => nomatch h)⟩)⟩, (by dsimp only; rw [eN]; exact Sub.trans (sk (sk (sk (sk (sk (sk (sk (sk (sd (sd I8)))))))))) (Sub.trans (sk (sk (Sub.trans (sk (Sub.trans (sk (Sub.trans (sk (Sub.trans (sk (Sub.trans (sk (Sub.trans (sk sr) (e5 pm2))) (e5 pm2))) (e5 pm3))) (e5 pm3))) (e5 pm3))) (e5 pm3)))) (e5 (List.perm_middle (l₁ := [_, _, _, _, _, _, _, _])))))⟩
      ·show DocOk _ _ _; dsimp only; rw [eS]; exact hd2
      exact K8
    ·refine u7 J70 (fun w hw => (by have h := oL (⟨(os.getD k C6).A, (os.getD k C6).c, B2, d2, (os.getD k C6).o⟩ : OrdA) (by show (os.getD k C6).o.ss.length ≤ 65536; omega) (by show (os.getD k C6).o.xs.length ≤ 65536; omega) n w hoo.low (Rd.ro hoo.ro w hw) (Rd.own (Rd.at 1 rfl) w hw); rw [decide_eq_false hf] at h; exact h : Calls prog 70 #[.agg (M7 (⟨(os.getD k C6).A, (os.getD k C6).c, B2, d2, (os.getD k C6).o⟩ : OrdA)).toArray, .int .u64 (n : Int)] w (nX w (.bool false)))) ?_
     have eE : yC (os.getD k C6).o n = 1 := by rw [yC, if_neg hf, if_pos hr]
     have eN : BK (os.getD k C6).o n = n := by rw [BK, if_neg fun h => hf h.1]
     have eS : CN (os.getD k C6).o n Y = Y := by rw [CN, if_neg hf]
     refine gw ?_
     refine ⟨(M, A1, c1), ?_, ⟨?_, (List.forall_mem_cons.2 ⟨(by show _ = Value.int .i64 ((yC (os.getD k C6).o n : Nat) : Int); rw [eE]; rfl), (fun _ h => nomatch h)⟩)⟩, (by dsimp only; rw [eN]; exact Sub.trans (sk (sk (sk (sk (sk (sk (sk (sk (sd (sd I8)))))))))) (Sub.trans (sk (Sub.trans (sk (Sub.trans (sk (Sub.trans (sk (Sub.trans (sk (Sub.trans (sk (Sub.trans (sk (Sub.trans (sk sr) (e5 pm2))) (e5 pm2))) (e5 pm3))) (e5 pm3))) (e5 pm3))) (e5 pm3))) (e5 (List.perm_middle (l₁ := [_, _, _, _, _, _, _]))))) (e5 (List.perm_middle (l₁ := [_, _, _, _, _, _, _])))))⟩
     ·show DocOk _ _ _; dsimp only; rw [eS]; exact hdk.mono ow
     exact K8
   ·refine u7 J69 (fun w hw => (by have h := lS (⟨(os.getD k C6).A, (os.getD k C6).c, B2, d2, (os.getD k C6).o⟩ : OrdA) (by show (os.getD k C6).o.ss.length ≤ 65536; omega) (by show (os.getD k C6).o.xs.length ≤ 65536; omega) w hoo.low (Rd.ro hoo.ro w hw) (Rd.own (Rd.at 1 rfl) w hw); rw [decide_eq_false hr] at h; exact h : Calls prog 69 #[.agg (M7 (⟨(os.getD k C6).A, (os.getD k C6).c, B2, d2, (os.getD k C6).o⟩ : OrdA)).toArray] w (nX w (.bool false)))) ?_
    have eE : yC (os.getD k C6).o n = 2 := by rw [yC, if_neg (fun h => hr h.1), if_neg hr]
    have eN : BK (os.getD k C6).o n = n := by rw [BK, if_neg fun h => (fun h => hr h.1) h.1]
    have eS : CN (os.getD k C6).o n Y = Y := by rw [CN, if_neg (fun h => hr h.1)]
    refine gw ?_
    refine ⟨(M, A1, c1), ?_, ⟨?_, (List.forall_mem_cons.2 ⟨(by show _ = Value.int .i64 ((yC (os.getD k C6).o n : Nat) : Int); rw [eE]; rfl), (fun _ h => nomatch h)⟩)⟩, (by dsimp only; rw [eN]; exact Sub.trans (sk (sk (sk (sk (sk (sk (sk (sk (sd (sd I8)))))))))) (Sub.trans (sk (Sub.trans (sk (Sub.trans (sk (Sub.trans (sk (Sub.trans (sk (Sub.trans (sk (Sub.trans (sk (Sub.trans (sk sr) (e5 pm2))) (e5 pm2))) (e5 pm3))) (e5 pm3))) (e5 pm3))) (e5 pm3))) (e5 (List.perm_middle (l₁ := [_, _, _, _, _, _, _]))))) (e5 (List.perm_middle (l₁ := [_, _, _, _, _, _, _])))))⟩
    ·show DocOk _ _ _; dsimp only; rw [eS]; exact hdk.mono ow
    exact K8
  ·rintro ⟨M2, A2, c2⟩ u hd3
   dsimp only at hd3
   refine gw ?_
   refine e6 (a8 rfl (i4 (vs := M7 (os.getD k C6)) (s6 6 rfl) rT ce58)) ?_
   refine z7 (l8 (Pre := [Blk qb 160 [.int .u64 (n : Int), .map (some sm), .pointer (some ⟨tb, 0, none⟩)], u6 sm Q9 sv Y, Blk tb 243 (q7 E (s7 n) mb), u6 mb p6 hv ms]) (R := _) J38 rfl (pm2.trans (pc (pm2.trans (pc (pm2.trans (pc pm2)))))) (fun w hw => zjc E hEm hE hE0 (12 * k) ow qb n sm tb mb Y ms (os.getD k C6).A (os.getD k C6).c (os.getD k C6).B (os.getD k C6).d (os.getD k C6).o ow ow hok w hw.sat.left hoo.low (u5 hw hoo.ro) (u5 hw hoo.rs) (hT.pre hw)) ?_)
   rintro v L' ⟨tb3, mb3, ms3, rfl, rfl, hok3⟩
   refine u7 J68 (fun w hw => KK (yC (os.getD k C6).o n) w) (gw ?_)
   refine e6 (Qt.dF (C7 rfl rfl) (fun h => h rfl)) (gw ?_)
   refine ⟨(k + 1, BK (os.getD k C6).o n, (tb3, mb3), (CN (os.getD k C6).o n Y, ms3), M2, A2, c2), ?_, ?_, ⟨?_, ag⟩, Sub.trans (sk (sk (sk (sk (sk (sk (sk (sd I8)))))))) (sk (sk (sk (sk (sk (sk (Sub.trans (sk sr) (e5 pm1))))))))⟩
   ·exact ⟨by show _ ≤ _; dsimp only; omega, hok3.mono (by dsimp only; omega), hd3.mono (by dsimp only; omega)⟩
   ·show _ < _; dsimp only; omega
   exact K8
 ·refine i7 (c8 ?_)
  refine D1 ([3], []) mixed (sk (sk (sk (sk (sk (sk (sd I8))))))) ?_
  obtain rfl : k = os.length := by omega
  refine gw ?_
  refine c6 1 rfl (a8 rfl (i4 (vs := [.int .u64 (n : Int), .slice A1 M.length c1]) (s6 4 rfl) rT ce76)) (gw ?_)
  refine F7 3 rfl (Y7 rfl cw (by exact ce76) (by rfl) (by rfl) (G0 ?_))
  refine gw ?_
  refine p7 ?_
  refine a9 ?_
  refine finQ.ret (aV cw (j7 rfl (i4 (s6 6 rfl) rT (ce76)) rv)) (Sub.trans (sk (sk (sk (sk (sk (sd (sd I8))))))) (sk (sk (sk (sk (Sub.trans (sk sr) (e5 pm1))))))) ?_
  exact ⟨qb, sm, n, tb, mb, Y, ms, M, A1, c1, rfl, rfl, hok.mono ow, hdk.mono ow⟩
end Go.Proofs.YtgdjcmehlhebdaaGreatDoor
namespace Go.E
theorem zcQ {E g2 : Nat → i6} {ms : Tm} {h : Nat} (ht : TreeOk E h g2 ms) (hh : h ≤ 32) {kind : Int} {first : Nat} {many : Int} {xs l : List Nat} (hl : l = fG kind first many xs) (err : Int) (its : List Item) (pa pb : List i6) :
  eX (fun x => s4 E ms (0, x)) (fun a => s4 E ms a) h kind first l err its pa pb = eX (fun x => s5 g2 0 x) (fun a => s5 g2 a.1 a.2) h kind first l err its pa pb := by
 by_cases hb : pX h l err its
 ·rw [aB hb, aB hb]
 ·have hi : idxOk h l := Decidable.byContradiction fun k => hb (.inr (.inl k))
  have e1 : l.map (fun x => s4 E ms (0, x)) = l.map fun x => s5 g2 0 x := List.map_congr_left fun x hx => ht.get (0, x) (JE (hi.low x hx))
  by_cases hk : kind = 1
  ·rw [uB hb hk, uB hb hk, e1, List.map_congr_left (g := fun a : Nat × Nat => s5 g2 a.1 a.2) fun a ha => ht.get a (kX h l 0 (cE h) a ha)]
  ·have h4 := hi
   rw [hl] at h4
   obtain ⟨m, k1, k2, k3, k4, k5, k6, k7, k8⟩ := FP hk hh h4
   rw [← hl] at k7
   have e2 : (l4 first h).map (fun a => s4 E ms a) = (l4 first h).map fun a => s5 g2 a.1 a.2 := List.map_congr_left fun a ha => ht.get a (EW ow a ha)
   have e3 : (j6 (first + l.length - 1) h).map (fun a => s4 E ms a) = (j6 (first + l.length - 1) h).map fun a => s5 g2 a.1 a.2 := List.map_congr_left fun a ha => ht.get a (EY ow a ha)
   rw [uC hb hk, uC hb hk, e1, e2, e3]
theorem zcR {Y M : Sm} (hm : ∀ p, look p M = look p Y) (h : Nat) (l : List Nat) (err : Int) (its : List Item) : jS (Z0 Y) h l err its = jS (Z0 M) h l err its := by
 have : Z0 Y = Z0 M := funext fun i => (qK hm i).symm
 rw [this]
theorem zc2 {E g : Nat → i6} {ms : Tm} {n : Nat} (hn : fE n) (ht : TreeOk E (s7 n) g ms) (o : Order) (err : Int) (pa pb : List i6) :
  gD (fun x => s4 E ms (0, x)) (fun a => s4 E ms a) (fun i => cB E ms (s7 n) i) n o err pa pb = gD (fun x => s5 g 0 x) (fun a => s5 g a.1 a.2) (fun i => gA g (s7 n) i) n o err pa pb := by
 by_cases h1 : err ≠ 0
 ·rw [bK (.inl h1), bK (.inl h1)]
 by_cases h2 : T6 o n
 ·by_cases h3 : o.kind ≠ 3
  ·have hi := gZ hn h2 h3
   rw [cL h1 h2 h3, cL h1 h2 h3, List.map_congr_left (g := fun x => s5 g 0 x) fun x hx => ht.get (0, x) (JE (hi.low x hx)), List.map_congr_left (g := fun a : Nat × Nat => s5 g a.1 a.2) fun a ha => ht.get a (kX (s7 n) o.xs 0 (cE (s7 n)) a ha)]
  ·by_cases h4 : o.blocks < n ∧ pa.length = 1
   ·have hb : o.blocks - 1 < 2 ^ s7 n := by have := gK hn; omega
    rw [fB h1 h2 h3 h4.1 h4.2, fB h1 h2 h3 h4.1 h4.2]
    show D4 (S6 (s4 E ms (0, o.blocks - 1)) _ (cB E ms (s7 n) (o.blocks - 1))) _ = _
    rw [ht.get (0, o.blocks - 1) (JE hb), zhl ht hb]
   ·rw [iL h1 h2 h3 h4, iL h1 h2 h3 h4]
 ·rw [bK (.inr h2), bK (.inr h2)]
theorem HH {leaf : Nat → i6} {node : Nat × Nat → i6} {own : Nat → Item} {h : Nat} {kind : Int} {first : Nat} {l : List Nat} {err : Int} {its : List Item} {pa pb : List i6} : ∀ q ∈ eX leaf node h kind first l err its pa pb ++ jS own h l err its, q.1.length ≤ 70368744177664 ∧ q.2.length ≤ 70368744177664 := fun q hq => by
 rcases List.mem_append.1 hq with k | k
 ·unfold eX at k
  split at k
  ·cases k
  ·split at k
   ·exact kQ (pH _ _ _ _) (pH _ _ _ _) q k
   ·exact zhL q k
 ·unfold jS at k
  split at k
  ·cases k
  ·exact kQ (vS _ _) (vS _ _) q k
end Go.E
namespace Go.Proofs.YtgdjcmehlhebdaaGreatDoor
open _root_.Go.Proofs.Tryz
open Go.E
set_option maxRecDepth 4000
theorem J23 : p8 prog 23 := ⟨_, func23, by kernel_rfl, rfl⟩
theorem J25 : p8 prog 25 := ⟨_, func25, by kernel_rfl, rfl⟩
theorem J31 : p8 prog 31 := ⟨_, func31, by kernel_rfl, rfl⟩
theorem J33 : p8 prog 33 := ⟨_, func33, by kernel_rfl, rfl⟩
theorem J34 : p8 prog 34 := ⟨_, func34, by kernel_rfl, rfl⟩
theorem J36 : p8 prog 36 := ⟨_, func36, by kernel_rfl, rfl⟩
theorem seal91 : IP prog 91 := ⟨_, _, _, _, underlying91, by kernel_rfl, ⟨by decide, by decide, by decide⟩, ⟨rfl, rfl, rfl⟩, underlying40, underlying89, underlying59, underlying5, cells5, ⟨by kernel_rfl, by kernel_rfl⟩, by kernel_rfl, by kernel_rfl⟩
theorem item93 : IH prog 93 := ⟨_, _, underlying93, by kernel_rfl, ⟨by decide, by decide⟩, ⟨rfl, rfl⟩, underlying4, seal91, by kernel_rfl, by kernel_rfl⟩
theorem zfV (E : Nat → i6) (hEr : ∀ w, Tabs 2 0 w [] → cP 137 #[] w fun v L => ∃ O d, v = sL O 33 d ∧ L = [OwnA 49 32 O 33 d (m9 (H3 E))]) (hE : ∀ h, E (h + 1) = F8 (h + 1) (E h) (E h)) (n : Nat) (A) (c : Nat) (M : Sm) (hl : M.length ≤ 4095) (hon : fE n) (q : ReqB) (hf : q.first < 18446744073709551616) (l : List Nat) (hl3 : l = fG q.kind q.first q.many q.xs) (r : RepB) (hni : r.its.length ≤ 16384) (w0) (lw : ∀ y ∈ M, y.1 < 18446744073709551616) (hM : Ro w0 [] (SlA A (M.flatMap M9))) (hlx : ∀ x ∈ q.xs, x < 18446744073709551616) (hcx : q.xs.length ≤ q.c) (hR : Ro w0 [] (SlA q.A (w6 q.xs))) (hI : Ro w0 [] (SlA r.I (r.its.flatMap u9))) (hP2 : Ro w0 [] (SlA r.P (m9 r.pa))) (hQ2 : Ro w0 [] (SlA r.Q (m9 r.pb))) (hT : Tabs 2 0 w0 []) :
  cP 33 #[.agg #[uI n, sL A M.length c], .agg (bL q).toArray, .agg (Y5 r).toArray] w0 fun v L => fF 115 ((eX (fun x => s5 (fL E (T7 M)) 0 x) (fun a : Nat × Nat => s5 (fL E (T7 M)) a.1 a.2) (s7 n) q.kind q.first l r.err r.its r.pa r.pb) ++ (jS (Z0 M) (s7 n) l r.err r.its)) v L := by
 refine HG ?_
 by_cases hk : q.kind = 1
 ·rw [FO hk] at hl3
  subst hl3
  exact zaV E hEr hE n A c M hl hon q hk r hni w0 lw hM hlx hcx hR hI hP2 hQ2 hT
 ·exact zaW E hEr hE n A c M hl hon q hk hf l hl3 (by rw [hl3]; exact DA hlx) r hni w0 lw hM hlx hcx hR hI hP2 hQ2 hT
set_option maxRecDepth 8000 in
theorem zfi (E : Nat → i6) (hEm : ∀ w, Tabs 3 1 w [] → Calls prog 55 #[] w (nX w (.agg (m9 (H3 E)).toArray))) (hE0 : E 0 = K3 [0]) (hE : ∀ h, E (h + 1) = F8 (h + 1) (E h) (E h)) (hEr : ∀ w, Tabs 2 0 w [] → Calls prog 137 #[] w (D0 w [] fun v L => ∃ O d, v = .slice O 33 d ∧ L = [OwnA 49 32 O 33 d (m9 (H3 E))])) (n0 : Nat) (hn64 : n0 < 18446744073709551616) (OA : y8) (oc : Nat) (os : List OrdA) (ho : os.length ≤ 2199023255488) (q : ReqB) (p : RepB) (x : OrdA) (hqs : (q.t.x.o.ss.length * 56 ≤ 140737488351232)) (hps : (p.t.x.o.ss.length * 56 ≤ 140737488351232)) (w0 : World) (hO : Ro w0 [] (SlA OA (os.flatMap M7))) (hos : ∀ o ∈ os, o.Ok w0) (hq : q.toA.Ok w0) (hp : p.toA.Ok w0) (hqS : Ro w0 [] (SlA q.t.x.B (q.t.x.o.ss.flatMap o4))) (hpS : Ro w0 [] (SlA p.t.x.B (p.t.x.o.ss.flatMap o4))) (hx : x.Ok w0) (hT : Tabs 3 1 w0 []) (hT2 : Tabs 2 0 w0 []) :
  Calls prog 5 #[.int .u64 (n0 : Int), .slice OA os.length oc, .agg (oC q.toA p.toA x).toArray] w0 (D0 w0 [] fun v L => v = .bool true ∧ L = []) := by
 refine co 132 [.tmp 6] func5 ?_
 refine gw ?_
 intro b5
 refine gw ?_
 refine u7 J8 (fun w hw => Calls.ret (zb7 E hEm w (hT.at hw))) ?_
 refine e6 (uO rfl) ?_
 refine l3 (C4 rfl (w8 (c8 (c8 (c7 (o8 ?_))))))
 refine e6 (a8 rfl (i4 (vs := oC q.toA p.toA x) w5 rT (by rw [rN]; exact ce67))) ?_
 by_cases hlg : dJ os q.toA p.toA x
 ·refine u7 J20 (fun w hw => (by have h := Calls.ret (oW OA oc os ho q.toA p.toA x w (Rd.ro hO w hw)); rw [decide_eq_true hlg] at h; exact h : Calls prog 20 #[.slice OA os.length oc, .agg (oC q.toA p.toA x).toArray] w (nX w (.bool true)))) (gw ?_)
  refine a9 (fR ?_)
  exact ⟨rfl, rfl⟩
 ·refine u7 J20 (fun w hw => (by have h := Calls.ret (oW OA oc os ho q.toA p.toA x w (Rd.ro hO w hw)); rw [decide_eq_false hlg] at h; exact h : Calls prog 20 #[.slice OA os.length oc, .agg (oC q.toA p.toA x).toArray] w (nX w (.bool false)))) ?_
  have hb0 : ∀ o ∈ x :: os, ¬ uQ o := fun o h1 h2 => hlg (.inl ⟨o, h1, h2⟩)
  have hlg2 : ¬ (20 < os.length ∨ 30 < q.xs.length ∨ 30 < q.many ∨ 40 < p.its.length ∨ 60 < p.pa.length ∨ 300 < p.pb.length) := fun h => hlg (.inr h)
  have hbx := hb0 x (List.mem_cons_self ..)
  refine gw ?_
  unfold uQ at hbx
  refine gw ?_
  refine j0 rfl rfl (p9 (b := 1) rfl rfl) (fun h22 => gw ?_) (fun h22 => gw ?_)
  ·refine u7 J21 (fun w hw => Calls.ret (sG n0 (fun h => by obtain ⟨h1, h2⟩ := h; omega) w)) (gw ?_)
   refine aK J22 (fun w hw => LU w) (gw ?_)
   refine a9 (fR ?_)
   exact ⟨rfl, rfl⟩
  ·refine D9 rfl rfl rfl (M0 (b := 4294967296) rfl rfl) (fun h25 => gw ?_) (fun h25 => ?_)
   ·refine u7 J21 (fun w hw => Calls.ret (sG n0 (fun h => by obtain ⟨h1, h2⟩ := h; omega) w)) (gw ?_)
    refine aK J22 (fun w hw => LU w) (gw ?_)
    refine a9 (fR ?_)
    exact ⟨rfl, rfl⟩
   ·have hon : fE n0 := ⟨by omega, by omega⟩
    refine gw ?_
    refine z9 J23 (fun w hw => zbJ E hEm hE0 hE n0 hon OA oc os ow (fun o h1 => hb0 o (List.mem_cons_of_mem _ h1)) w (Rd.ro hO w hw) (fun o h1 => (hos o h1).go0 hw) (hT.at hw)) ?_
    rintro v L' ⟨qb, sm, n, tb, mb, Y, ms, M, A1, c1, rfl, rfl, hok, hdk⟩
    have hh := aL hok.on
    have hMl : M.length ≤ 4095 := by have := hdk.len; omega
    have eF : fL E (T7 M) = gS Y := by rw [zjd hE0, zgY hdk.look]
    have hok2 : TreeOk E (s7 n) (fL E (T7 M)) ms := by rw [eF]; exact hok.ok
    have hmm : q.xs.map (Z0 M) = q.xs.map (Z0 Y) := List.map_congr_left fun i _ => qK hdk.look i
    refine gw ?_
    intro b10
    refine gw ?_
    refine j9 rfl (j5 rfl cw (by exact ce76) (by rfl) (by rfl) ?_)
    refine gw ?_
    refine dw ([], [6]) (gw ?_)
    refine Q7 4 rfl rfl J24 (fun w hw => zhA E qb n sm tb mb ms hok.on w (Rd.at 1 rfl w hw) (Rd.at 3 rfl w hw) (Rd.at 4 rfl w hw)) ?_
    refine C2 5 rfl rfl (a8 rfl (i4 (vs := [.int .u64 (n : Int), .slice A1 M.length c1]) w5 rT ce76)) ?_
    refine JR (k := 6) sn rfl (by kernel_rfl) (by kernel_rfl) rfl rfl rfl (l8 (Pre := []) (R := _) J26 rfl pr (fun w hw => gH E hEr n A1 c1 M hMl hok.on w hdk.low (Rd.own (Rd.at 5 rfl) w hw) (hT2.at hw)) ?_)
    rintro v L' ⟨A2, c2, O, dd, rfl, rfl⟩
    refine G0 ?_
    refine Q7 7 rfl rfl J25 (fun w hw => ziT E hE (s7 n) hh (T7 M) A2 c2 O dd w (by rw [bU]; omega) (cS hdk.low) (Rd.own (Rd.at 0 rfl) w hw) (Rd.own (Rd.at 1 rfl) w hw) (hT2.at hw)) ?_
    refine C2 8 rfl rfl (Qt.dF (zi4 (a := s4 E ms (s7 n, 0)) (b := s5 (fL E (T7 M)) (s7 n) 0) guard49 uT uT cT rfl rfl) (fun h => h (hok2.get _ (cE (s7 n))))) (gw ?_)
    refine Q7 12 rfl rfl J27 (fun w hw => uR qb n sm tb w (Rd.at 3 rfl w hw)) (gw ?_)
    refine C2 15 rfl rfl (Qt.dF (C7 rfl rfl) (fun h => h rfl)) (gw ?_)
    refine Q7 19 rfl rfl J28 (fun w hw => zix qb n sm tb Y (by have := hok.len; omega) w (Rd.at 3 rfl w hw) (Rd.at 4 rfl w hw)) (gw ?_)
    refine C2 23 rfl rfl (Qt.dF (C7 rfl rfl) (fun h => h (hdk.length hok.nd).symm)) (gw ?_)
    refine p7 (gw ?_)
    refine dw ([], [4, 5, 10]) ?_
    refine c6 0 rfl (m8 cw) ?_
    refine c6 1 rfl (x9 uT rfl ce63 rfl) ?_
    refine c6 2 rfl (x9 uT rfl ce22 rfl) ?_
    refine c6 3 rfl (a8 rfl (i9 (v := .slice q.A q.xs.length q.c) (s6 8 rfl) oT (tO q.toA p.toA x q.toA.k2))) ?_
    refine c6 6 rfl (a8 rfl (i4 (vs := [.int .u64 (n : Int), .slice A1 M.length c1]) aH rT ce76)) ?_
    refine c6 7 rfl (x9 uT rfl ce63 rfl) ?_
    refine c6 8 rfl (x9 uT rfl ce22 rfl) ?_
    refine c6 9 rfl (a8 rfl (i9 (v := .slice q.A q.xs.length q.c) (s6 8 rfl) oT (tO q.toA p.toA x q.toA.k2))) ?_
    refine P5 4 rfl J29 (fun w hw => dW qb n sm tb Y q.A q.c q.xs ow w (Rd.at 3 rfl w hw) (Rd.at 4 rfl w hw) (Rd.ro hq.ro w hw)) ?_
    rintro v L' ⟨O7, d7, rfl, rfl⟩
    refine P5 5 rfl J12 (fun w hw => (by have k := zco O7 d7 (q.xs.map (Z0 Y)) (by rw [List.length_map]; omega) w (Rd.own (Rd.at 0 rfl) w hw); rw [List.length_map] at k; exact k : Calls prog 12 #[.slice O7 q.xs.length d7] w (D0 w [] fun v L => ∃ O d, v = .slice O q.xs.length d ∧ L = [OwnA 93 50 O q.xs.length d ((q.xs.map (Z0 Y)).flatMap u9)]))) ?_
    rintro v L' ⟨O8, d8, rfl, rfl⟩
    refine P5 10 rfl J30 (fun w hw => nE n A1 c1 M hMl q.A q.c q.xs ow w hdk.low (Rd.own (Rd.at 9 rfl) w hw) hq.low (Rd.ro hq.ro w hw)) ?_
    rintro v L' ⟨O9, d9, rfl, rfl⟩
    refine gw ?_
    refine p7 (gw ?_)
    refine e6 (Qt.dF (C7 rfl rfl) (fun h => h rfl)) (gw ?_)
    refine l5 (γ := Nat) [89, 90, 14, 91, 92, 93, 94, 95, 96, 97, 98, 99, 6, 100, 88] (fun k => [(88, .int .i64 (k : Int))]) (fun _ => _) (fun k => k ≤ q.xs.length) (fun k => q.xs.length - k) (0)
     (Nat.zero_le _) ⟨Out.refl _ _, ag⟩ sr ?_
    rintro k u hk
    refine gw ?_
    refine j0 rfl rfl (p9 rfl rfl) (fun h89 => gw ?_) (fun h89 => gw ?_)
    ·refine dw ([], []) (gw ?_)
     refine c6 2 rfl (i5 uT cT rfl rfl ow (x8 N3) (by rw [Z9, List.length_map]; omega)) ?_
     refine c6 3 rfl (a8 rfl (H4 (vs := u9 ((q.xs.map (Z0 Y)).getD k z8)) (x8 N3) rT (by rw [m0]; exact ce93) (by rw [m0]; decide) (bQ (by rw [List.length_map]; omega) rfl))) (gw ?_)
     refine c6 6 rfl (i5 uT cT rfl rfl ow (x8 w5) (by rw [Z9, List.length_map]; omega)) ?_
     refine c6 7 rfl (a8 rfl (H4 (vs := u9 ((q.xs.map (Z0 M)).getD k z8)) (x8 w5) rT (by rw [m0]; exact ce93) (by rw [m0]; decide) (bQ (by rw [List.length_map]; omega) rfl))) ?_
     refine c6 8 rfl (Qt.dF (zez (a := ((q.xs.map (Z0 Y)).getD k z8)) (b := ((q.xs.map (Z0 M)).getD k z8)) (by kernel_rfl) item93 rfl rfl) (fun h => h (by rw [hmm]))) ?_
     refine p7 (gw ?_)
     refine ⟨k + 1, ?_, ?_, ⟨?_, ag⟩, sr⟩
     ·show _ ≤ _; omega
     ·show _ < _; dsimp only; omega
     exact K8
    ·refine i7 (c8 (c7 ?_))
     refine e6 (x9 uT rfl ce65 rfl) ?_
     refine e6 (a8 rfl (Q0 (vs := Y5 p) (s6 11 rfl) rT (by rw [G8]; exact ce65) (pW q.toA p.toA x))) ?_
     refine z9 J31 (fun w hw => zd5 p hps ow w (Rd.ro hpS w hw) (Rd.ro hp.roi w hw)) ?_
     rintro v L' ⟨I, i, B3, d3, rfl, rfl⟩
     refine gw ?_
     intro b15
     refine j9 rfl (j5 (v := .agg (Y5 (p.at I i B3 d3)).toArray) rfl rfl (by rw [o6, G8]; exact ce100) (kS _) (by rw [o6, G8]; rfl) ?_)
     refine gw ?_
     refine dw ([], [5, 9, 11, 19, 23, 25]) ?_
     refine c6 0 rfl (m8 cw) ?_
     refine c6 1 rfl (x9 uT rfl ce63 rfl) ?_
     refine c6 2 rfl (a8 rfl (Q0 (vs := bL q) (s6 14 rfl) rT (by rw [T8]; exact ce63) (FQ q.toA p.toA x))) ?_
     refine c6 3 rfl (x9 uT rfl ce65 rfl) ?_
     refine c6 4 rfl (a8 rfl (Q0 (vs := Y5 p) (s6 14 rfl) rT (by rw [G8]; exact ce65) (pW q.toA p.toA x))) ?_
     refine c6 6 rfl (a8 rfl (i4 (vs := [.int .u64 (n : Int), .slice A1 M.length c1]) (s6 8 rfl) rT ce76)) ?_
     refine c6 7 rfl (x9 uT rfl ce63 rfl) ?_
     refine c6 8 rfl (a8 rfl (Q0 (vs := bL q) (s6 14 rfl) rT (by rw [T8]; exact ce63) (FQ q.toA p.toA x))) ?_
     refine c6 10 rfl (a8 rfl (i4 (vs := Y5 (p.at I i B3 d3)) w5 rT (by rw [G8]; exact ce100))) ?_
     refine P5 5 rfl J32 (fun w hw => zhp E qb n sm tb mb Y ms hok.on q.toA p.toA (fG q.kind q.first q.many q.xs) rfl w (hq.go0 hw) (hp.go0 hw) (Rd.at 9 rfl w hw) (Rd.at 11 rfl w hw) (Rd.at 12 rfl w hw) (Rd.at 10 rfl w hw) (hT.at hw)) ?_
     rintro v L' ⟨O4, d4, pp, Ls, rfl, rfl, e1, l1x, m1⟩
     refine P5 9 rfl J34 (fun w hw => zd6 q hqs w (Rd.ro hqS w hw)) ?_
     rintro v L' ⟨B4, dq, rfl, rfl⟩
     refine P5 11 rfl J33 (fun w hw => zfV E hEr hE n A1 c1 M hMl hok.on (q.at B4 dq) hq.lt (fG q.kind q.first q.many q.xs) rfl (p.at I i B3 d3) (by show p.its.length ≤ 16384; omega) w hdk.low (Rd.own (Rd.at 16 rfl) w hw) hq.low hq.cap (Rd.ro hq.ro w hw) (Rd.own (Rd.at 4 rfl) w hw) (Rd.ro hp.rop w hw) (Rd.ro hp.roq w hw) (hT2.at hw)) ?_
     rintro v L' ⟨O5, d5, qq, Ls5, rfl, rfl, f1, l2x, m2⟩
     refine I7 12 rfl J10 (fun w hw => JL O4 d4 pp O5 d5 qq l1x (e1.trans ((show eX (fun x => s4 E ms (0, x)) (fun a => s4 E ms a) (s7 n) q.kind q.first (fG q.kind q.first q.many q.xs) p.err p.its p.pa p.pb ++ jS (Z0 Y) (s7 n) (fG q.kind q.first q.many q.xs) p.err p.its = eX (fun x => s5 (fL E (T7 M)) 0 x) (fun a : Nat × Nat => s5 (fL E (T7 M)) a.1 a.2) (s7 n) q.kind q.first (fG q.kind q.first q.many q.xs) p.err p.its p.pa p.pb ++ jS (Z0 M) (s7 n) (fG q.kind q.first q.many q.xs) p.err p.its by rw [zcQ hok2 hh rfl, zcR hdk.look]).trans f1.symm)) w (Rd.own (Rd.at 3 rfl) w hw) (PxRo.many (Rd.at 4 rfl) m1 hw) (tK e1 HH) (Rd.own (Rd.at 0 rfl) w hw) (PxRo.many (Rd.at 1 rfl) m2 hw) (tK f1 HH) (hT.at hw) (hT2.at hw)) ?_
     refine c6 13 rfl (m8 cw) ?_
     refine C2 14 rfl rfl (m8 cw) ?_
     refine C2 15 rfl rfl (x9 uT rfl ce58 rfl) ?_
     refine C2 16 rfl rfl (a8 rfl (Q0 (vs := M7 x) (s6 19 rfl) rT ce58 (BG q.toA p.toA x))) ?_
     refine C2 17 rfl rfl (x9 uT rfl ce65 rfl) ?_
     refine C2 18 rfl rfl (a8 rfl (Q0 (vs := Y5 p) (s6 19 rfl) rT (by rw [G8]; exact ce65) (pW q.toA p.toA x))) ?_
     refine C2 20 rfl rfl (a8 rfl (i4 (vs := [.int .u64 (n : Int), .slice A1 M.length c1]) (s6 13 rfl) rT ce76)) ?_
     refine C2 21 rfl rfl (x9 uT rfl ce58 rfl) ?_
     refine C2 22 rfl rfl (a8 rfl (Q0 (vs := M7 x) (s6 19 rfl) rT ce58 (BG q.toA p.toA x))) ?_
     refine C2 24 rfl rfl (a8 rfl (i4 (vs := Y5 (p.at I i B3 d3)) (s6 5 rfl) rT (by rw [G8]; exact ce100))) ?_
     refine JR (k := 19) sn rfl (by kernel_rfl) (by kernel_rfl) rfl rfl rfl (l8 (Pre := []) (R := _) J35 rfl pr (fun w hw => tE E n hok.on qb sm tb mb ms x.A x.c x.B x.d x.o hx.cap ow ow hx.blk (Y5 p) p.err p.P p.p p.pa p.Q p.q p.pb (G8 p) (kS p) rfl (nI p) (nJ p) hp.capp hp.capq w (Rd.at 14 rfl w hw) (Rd.at 16 rfl w hw) (Rd.at 17 rfl w hw) hx.low (Rd.ro hx.ro w hw) (Rd.ro hx.rs w hw) (Rd.ro hp.rop w hw) (Rd.ro hp.roq w hw) (hT.at hw)) ?_)
     rintro v L' ⟨O6, d6, ss, Ls6, rfl, rfl, e2, l3x, m3⟩
     refine G0 ?_
     refine JR (k := 23) sn rfl (by kernel_rfl) (by kernel_rfl) rfl rfl rfl (l8 (Pre := []) (R := _) J37 rfl pr (fun w hw => jG x ow w (Rd.ro hx.rs w hw)) ?_)
     rintro v L' ⟨B6, do6, rfl, rfl⟩
     refine G0 ?_
     refine JR (k := 25) sn rfl (by kernel_rfl) (by kernel_rfl) rfl rfl rfl (l8 (Pre := []) (R := _) J36 rfl pr (fun w hw => zbE E hEr hE n A1 c1 M hMl hok.on ⟨x.A, x.c, B6, do6, x.o⟩ (by show x.o.ss.length ≤ 65536; omega) (by show x.o.xs.length ≤ 65536; omega) hx.blk (by have := hok.on.2; omega) hx.cap (p.at I i B3 d3) w hdk.low (Rd.own (Rd.at 21 rfl) w hw) hx.low (Rd.ro hx.ro w hw) (Rd.own (Rd.at 0 rfl) w hw) (Rd.ro hp.rop w hw) (Rd.ro hp.roq w hw) (hT2.at hw)) ?_)
     rintro v L' ⟨O10, d10, tt, Ls7, rfl, rfl, f2, l4x, m4⟩
     refine G0 ?_
     refine Q7 26 rfl rfl J10 (fun w hw => JL O6 d6 ss O10 d10 tt l3x (e2.trans ((zc2 hok.on hok2 x.o p.err p.pa p.pb).trans f2.symm)) w (Rd.own (Rd.at 3 rfl) w hw) (PxRo.many (Rd.at 4 rfl) m3 hw) (tK e2 HQ) (Rd.own (Rd.at 0 rfl) w hw) (PxRo.many (Rd.at 1 rfl) m4 hw) (tK f2 HQ) (hT.at hw) (hT2.at hw)) (gw ?_)
     refine p7 ?_
     refine a9 (fR ?_)
     exact ⟨rfl, rfl⟩
theorem zai (n0 : Nat) (hn64 : n0 < 18446744073709551616) (OA) (oc : Nat) (os : List OrdA) (ho : os.length ≤ 2199023255488) (q : ReqB) (p : RepB) (x : OrdA) (hqs : (q.t.x.o.ss.length * 56 ≤ 140737488351232)) (hps : (p.t.x.o.ss.length * 56 ≤ 140737488351232)) (w0) (hO : Ro w0 [] (SlA OA (os.flatMap M7))) (hos : ∀ o ∈ os, o.Ok w0) (hq : q.toA.Ok w0) (hp : p.toA.Ok w0) (hqS : Ro w0 [] (SlA q.t.x.B (q.t.x.o.ss.flatMap o4))) (hpS : Ro w0 [] (SlA p.t.x.B (p.t.x.o.ss.flatMap o4))) (hx : x.Ok w0) (hT : Tabs 3 1 w0 []) (hT2 : Tabs 2 0 w0 []) : cP 5 #[uI n0, sL OA os.length oc, .agg (oC q.toA p.toA x).toArray] w0 (fun v L => v = .bool true ∧ L = []) :=
 zfi mY (fun w h => zeX w h) rfl (fun _ => rfl) (fun w h => zaP w h) n0 hn64 OA oc os ho q p x hqs hps w0 hO hos hq hp hqS hpS hx hT hT2
end Go.Proofs.YtgdjcmehlhebdaaGreatDoor
