/- Walks: sealed blocks and leaves as bytes -/
import Derived.Test.YtgdjcmehlhebdaaGreatDoorY9
set_option maxHeartbeats 25600000
set_option linter.all false
namespace Go.Proofs.YtgdjcmehlhebdaaGreatDoor
open _root_.Go.Proofs.Tryz
open Go.E
set_option maxRecDepth 4000
theorem BL (x : Sealed) (w0) : cR 54 #[.agg (o4 x).toArray] w0 (.agg (o4 x).toArray) := by
 refine cQ (co 4 [.cell 2 91] func54 ?_)
 refine gw ?_
 intro b1
 refine gw ?_
 intro b2
 refine gw ?_
 refine e6 (a8 rfl (i4 (vs := o4 x) N3 rT (by rw [k9]; exact ce136))) (j9 rfl (j5 (v := .agg (o4 x).toArray) rfl rfl (by rw [o6, k9]; exact ce91) (aF _) (by rw [o6, k9]; rfl) (gw ?_)))
 exact a9 (finQ.ret (j7 rfl (i4 w5 rT ((by rw [o6, k9]; exact ce91))) n9) sn (rr))
theorem zcN (x : Sealed) (w0) :
  cP 179 #[.agg (o4 x).toArray] w0 fun v L => ∃ O d, v = sL O (mF x).length d ∧ L = [OwnA 5 1 O (mF x).length d (e9 (mF x))] := by
 refine co 25 [.tmp 2] func179 ?_
 refine m6 5 1 (gw ?_)
 intro b1
 refine gw ?_
 refine e6 (C8 (v := .agg #[.nilIface, sL none 0 0]) rfl (fun _ => by kernel_rfl)) (gw ?_)
 intro b7
 refine gw ?_
 refine D1 ([3, 6, 9], [10]) mixed (sd (sk (sd I8))) (gw ?_)
 refine jU 5 rfl (n8 (v' := sL (some ⟨b1, 1, none⟩) x.data.1.length 32) (U1 uT cT rfl) (by rw [x.data.2]; rfl)) (gw ?_)
 refine jU 8 rfl (n8 (v' := sL (some ⟨b1, 33, none⟩) x.tag.1.length 16) (U1 uT cT rfl) (by rw [x.tag.2]; rfl)) (V5 3 rfl (l8 (Pre := [Blk b7 297 [.nilIface, sL none (([] : List UInt8)).length 0], OwnA 5 1 none (([] : List UInt8)).length 0 (e9 (([] : List UInt8)))]) (R := _) en rfl (pc pm1) (fun w hw => kN b7 none 0 [] x.ep 8 (.inr (.inr (.inr rfl))) (show _ < 2 ^ 64 from x.lt) x.lt dc w hw.sat.left) ?_))
 rintro v L' ⟨O1, d1, rfl, rfl⟩
 refine G0 ?_
 refine V5 6 rfl (l8 (Pre := [Blk b7 297 [.nilIface, sL O1 ((([] : List UInt8) ++ H7 x.ep 8)).length d1], OwnA 5 1 O1 ((([] : List UInt8) ++ H7 x.ep 8)).length d1 (e9 ((([] : List UInt8) ++ H7 x.ep 8)))]) (R := _) en rfl pr (fun w hw => pK b7 O1 d1 _ (some ⟨b1, 1, none⟩) 32 x.data.1 (by simp [D8, x.data.2, x.tag.2]) (by rw [x.data.2]; decide) w hw.sat.left (CW (y9 (A := Blk b1 136 (o4 x)) hw (List.mem_cons_self ..)))) ?_)
 rintro v L' ⟨O2, d2, rfl, rfl⟩
 refine G0 ?_
 refine V5 9 rfl (l8 (Pre := [Blk b7 297 [.nilIface, sL O2 (((([] : List UInt8) ++ H7 x.ep 8) ++ x.data.1)).length d2], OwnA 5 1 O2 (((([] : List UInt8) ++ H7 x.ep 8) ++ x.data.1)).length d2 (e9 (((([] : List UInt8) ++ H7 x.ep 8) ++ x.data.1)))]) (R := _) en rfl pr (fun w hw => pK b7 O2 d2 _ (some ⟨b1, 33, none⟩) 16 x.tag.1 (by simp [D8, x.data.2, x.tag.2]) (by rw [x.tag.2]; decide) w hw.sat.left (CX (y9 (A := Blk b1 136 (o4 x)) hw (List.mem_cons_self ..)))) ?_)
 rintro v L' ⟨O3, d3, rfl, rfl⟩
 refine G0 ?_
 refine P5 10 rfl en (fun w hw => qC b7 O3 d3 _ (by simp [D8, x.data.2, x.tag.2]) w (Rd.at 0 rfl w hw) (Rd.own (Rd.at 1 rfl) w hw)) ?_
 rintro v L' ⟨O4, d4, rfl, rfl⟩
 refine gw ?_
 refine p7 (gw ?_)
 refine a9 (D7 (sk sn) ?_)
 have e : (((([] : List UInt8) ++ H7 x.ep 8) ++ x.data.1) ++ x.tag.1) = mF x := by rw [List.nil_append]; rfl
 rw [e]
 exact ⟨O4, d4, rfl, rfl⟩
theorem oY (i : Nat) (hi : i < 4294967296) (x : Sealed) (w0) :
  cP 119 #[uI i, .agg (o4 x).toArray] w0 fun v L => ∃ O d, v = .tuple #[sL O (R6 i x).length d, .nilIface] ∧ L = [OwnA 5 1 O (R6 i x).length d (e9 (R6 i x))] := by
 refine co 19 [.tmp 4, .tmp 5] func119 ?_
 refine m6 5 1 (gw ?_)
 intro b3
 refine gw ?_
 refine e6 (C8 (v := .agg #[.nilIface, sL none 0 0]) rfl (fun _ => by kernel_rfl)) (gw ?_)
 intro b8
 refine gw ?_
 refine D1 ([1, 3, 6], [5, 7]) mixed (sd (sk (sd I8))) (gw ?_)
 refine jU 4 rfl (a8 rfl (i4 (vs := o4 x) w5 rT (by rw [k9]; exact ce136))) (V5 1 rfl (l8 (Pre := [Blk b8 297 [.nilIface, sL none (([] : List UInt8)).length 0], OwnA 5 1 none (([] : List UInt8)).length 0 (e9 (([] : List UInt8)))]) (R := _) en rfl (pc pm1) (fun w hw => kN b8 none 0 [] 1 1 (.inl rfl) dc dc dc w hw.sat.left) ?_))
 rintro v L' ⟨O1, d1, rfl, rfl⟩
 refine G0 ?_
 refine V5 3 rfl (l8 (Pre := [Blk b8 297 [.nilIface, sL O1 ((([] : List UInt8) ++ H7 1 1)).length d1], OwnA 5 1 O1 ((([] : List UInt8) ++ H7 1 1)).length d1 (e9 ((([] : List UInt8) ++ H7 1 1)))]) (R := _) en rfl pr (fun w hw => kN b8 O1 d1 _ i 4 (.inr (.inr (.inl rfl))) (show i < 2 ^ 32 from hi) ow (by simp [D8, R8]) w hw.sat.left) ?_)
 rintro v L' ⟨O2, d2, rfl, rfl⟩
 refine G0 ?_
 refine P5 5 rfl en (fun w hw => zcN x w) ?_
 rintro v L' ⟨Op, dp, rfl, rfl⟩
 refine V5 6 rfl (l8 (Pre := [Blk b8 297 [.nilIface, sL O2 (((([] : List UInt8) ++ H7 1 1) ++ H7 i 4)).length d2], OwnA 5 1 O2 (((([] : List UInt8) ++ H7 1 1) ++ H7 i 4)).length d2 (e9 (((([] : List UInt8) ++ H7 1 1) ++ H7 i 4)))]) (R := _) en rfl (pm1.trans (pc pm1)) (fun w hw => pK b8 O2 d2 _ Op dp (mF x) (by simp [D8, R8]) (by rw [R8]; decide) w hw.sat.left (Ro.own (y9 (A := OwnA 5 1 Op (mF x).length dp (e9 (mF x))) hw (List.mem_cons_self ..)))) ?_)
 rintro v L' ⟨O3, d3, rfl, rfl⟩
 refine G0 ?_
 refine P5 7 rfl en (fun w hw => qC b8 O3 d3 _ (by simp [D8, R8]) w (Rd.at 0 rfl w hw) (Rd.own (Rd.at 1 rfl) w hw)) ?_
 rintro v L' ⟨O4, d4, rfl, rfl⟩
 refine gw ?_
 refine p7 (a9 (finQ.ret rv (sx [0]) ?_))
 have e : (((([] : List UInt8) ++ H7 1 1) ++ H7 i 4) ++ mF x) = R6 i x := by rw [List.nil_append]; rfl
 rw [e]
 exact ⟨O4, d4, rfl, rfl⟩
theorem zcA (i : Nat) (hi : i < 4294967296) (x : Sealed) (w0) (hT : Tabs 3 1 w0 []) :
  cP 56 #[uI i, .agg (o4 x).toArray] w0 fun v L => v = .tuple #[hv (K3 (R6 i x)), .nilIface] ∧ L = [] := by
 refine co 14 [.cell 4 49, .tmp 5] func56 ?_
 refine gw ?_
 intro b3
 refine gw ?_
 intro b4
 refine gw ?_
 refine e6 (a8 rfl (i4 (vs := o4 x) N3 rT (by rw [k9]; exact ce136))) (z9 en (fun w hw => oY i hi x w) ?_)
 rintro v L' ⟨O, d, rfl, rfl⟩
 refine gw ?_
 refine u7 en (fun w hw => cQ (sB O d (R6 i x) w (Rd.own (Rd.at 0 rfl) w hw) (by rw [bR]; decide) (hT.at hw))) (gw ?_)
 refine j9 rfl (HY _ rfl (gw ?_))
 refine a9 (finQ.ret (j7 rfl (i4 N3 rT (o5 ce49)) rv) sn ?_)
 exact rr
theorem zv5 : gI prog 5 = some (.int .u8 0) := by kernel_rfl
theorem elem93 : S3 prog 93 50 64 := S4 (by kernel_rfl)
theorem build115 (A : y8) (n c : Nat) (B : y8) (m d : Nat) (w : World) : (Instr.build 115 #[(0, .slice A n c), (1, .slice B m d)]).run prog w = .ok (.agg #[.slice A n c, .slice B m d]) w := by kernel_rfl
theorem sJ (n s : Nat) (hs : s = 4 ∨ s = 8) (hn : n < 18446744073709551616) (w0 : World) :
    Calls prog 174 #[.int .u64 (n : Int), .int .i64 (s : Int)] w0 (D0 w0 [] fun v L => ∃ g, v = .slice (some ⟨g, 0, none⟩) s s ∧ L = [OwnA 5 1 (some ⟨g, 0, none⟩) s s (e9 (H7 n s))]) := by
  refine N4 (L := []) (n := 24) (rs := [.tmp 4]) func174 rfl rfl rfl (Nat.le_of_ble_eq_true rfl) (Sat.nil _) ?_
  refine c8 ?_
  refine c7 ?_
  refine C3 ?_
  refine l3 ?_
  refine c8 ?_
  refine c7 ?_
  refine o8 ?_
  refine z7 (pU (n := s) (cs := List.replicate s (.int .u8 0)) uT elem5 zv5 rfl rfl ow ow ow (by rcases hs with rfl | rfl <;> kernel_rfl) (fun g8 => ?_))
  refine C3 ?_
  refine l3 ?_
  refine c8 ?_
  refine c8 ?_
  refine c7 ?_
  refine o8 ?_
  refine e6 (cM rfl rfl (IntWalk.i64_in _ ow)) ?_
  refine C3 ?_
  refine l3 ?_
  refine C5 ?_
  refine l5 (γ := Nat) [11, 12, 15, 16, 17, 18, 19, 20, 21, 22, 0, 13, 14, 6] (fun k => [(6, .int .i64 ((s : Int) - 1 - (k : Int))), (0, .int .u64 ((n / 2 ^ (8 * k) : Nat) : Int))]) (fun k => [Blk g8 5 (yB n s k)]) (fun k => k ≤ s) (fun k => s - k) (0)
    (Nat.zero_le _) ⟨Out.refl _ _, (List.forall_mem_cons.2 ⟨(by show Value.int .i64 ((s : Int) - 1) = Value.int .i64 ((s : Int) - 1 - ((0 : Nat) : Int)); congr 1; omega), (List.forall_mem_cons.2 ⟨(by show Value.int .u64 (n : Int) = Value.int .u64 ((n / 2 ^ (8 * 0) : Nat) : Int); rw [Nat.mul_zero, Nat.pow_zero, Nat.div_one]), (fun _ h => nomatch h)⟩)⟩)⟩ ((by rw [zeQ]; exact sr)) ?_
  rintro k u hk
  refine c8 ?_
  refine c8 ?_
  refine c7 ?_
  refine o8 ?_
  refine j0 rfl rfl (eI rfl rfl) (fun h12 => ?_) (fun h12 => ?_)
  · refine l3 ?_
    refine Q3 rfl ?_
    refine w8 ?_
    refine c8 ?_
    refine C5 ?_
    refine c8 ?_
    refine c7 ?_
    refine o8 ?_
    refine e6 (n8 (m8 rfl) (congrArg (Value.int .i64) (show ((s : Int) - 1 - (k : Int)) = ((s - 1 - k : Nat) : Int) by omega))) ?_
    refine o8 ?_
    refine e6 (V9 (b := 256) rfl rfl ow) ?_
    refine e6 (U4 uT uT rfl) ?_
    refine e6 (x1 uT cT rfl rfl ow (j8 w5) (by rw [oI _ _ _ ow]; omega)) ?_
    refine j9 rfl (q6 rfl cw cT rfl rfl (by rw [oI _ _ _ ow]; omega) (zgU ow _ (zjF _)) ?_)
    refine l3 ?_
    refine c7 ?_
    refine o8 ?_
    refine e6 (n8 (I2 (b := 256) rfl rfl ow (by have := Nat.div_le_self n (2 ^ (8 * k)); simp only [H1]; omega)) (by rw [zgV])) ?_
    refine C3 ?_
    refine l3 ?_
    refine c7 ?_
    refine o8 ?_
    refine e6 (cM rfl rfl (IntWalk.i64_in _ ow)) ?_
    refine C3 ?_
    refine l3 ?_
    refine ⟨k + 1, ?_, ?_, ⟨?_, (List.forall_mem_cons.2 ⟨(by show Value.int .i64 ((s : Int) - 1 - (k : Int) - 1) = Value.int .i64 ((s : Int) - 1 - ((k + 1 : Nat) : Int)); congr 1; omega), (List.forall_mem_cons.2 ⟨rfl, (fun _ h => nomatch h)⟩)⟩)⟩, sr⟩
    · show _ ≤ _; omega
    · show _ < _; dsimp only; omega
    repeat (first | exact Out.refl _ _ | refine Out.put rfl ?_ | refine U3 rfl ?_ | refine Out.scr ?_ | refine X4 rfl ?_)
  · refine l3 ?_
    refine C4 rfl ?_
    refine i7 ?_
    refine c8 ?_
    refine c7 ?_
    refine TL.shutOwn (n := s) (c := s) (sz := 1) (by rw [oI _ _ _ ow]; omega) (Nat.le_refl _) (by simp only [maxLen]; omega) pr ?_
    rw [List.take_of_length_le (by rw [oI _ _ _ ow]; omega), show k = s by omega, zgT]
    refine o8 ?_
    refine C3 ?_
    refine l3 ?_
    refine a9 (finQ.ret rv sr ?_)
    exact ⟨g8, rfl, rfl⟩
theorem zcM (x : Sealed) (w0) :
  cP 175 #[.agg (o4 x).toArray] w0 fun v L => ∃ O d, v = sL O (mF x).length d ∧ L = [OwnA 5 1 O (mF x).length d (e9 (mF x))] := by
 refine co 15 [.tmp 2] func175 ?_
 refine gw ?_
 intro b1
 refine gw ?_
 refine z9 en (fun w hw => sJ x.ep 8 (.inr rfl) x.lt w) ?_
 rintro v L' ⟨g6, rfl, rfl⟩
 refine gw ?_
 refine e6 (U1 uT cT rfl) ?_
 refine z7 (Y6 (news := e9 x.data.1) uT elem5 rfl rfl (j4 (zgu (Rd.at 1 rfl))) (by rw [o3, x.data.2]) (r9 _) kx ow (fun O1 d1 => ?_))
 refine gw ?_
 refine e6 (U1 uT cT rfl) ?_
 refine z7 (Y6 (news := e9 x.tag.1) uT elem5 rfl rfl (j4 (zgv (Rd.at 1 rfl))) (by rw [o3, x.tag.2]) (r9 _) kx ow (fun O2 d2 => ?_))
 refine gw ?_
 refine a9 (D7 (sk (sd I8)) ?_)
 refine ⟨O2, d2, by rw [R8]; rfl, ?_⟩
 rw [R8, mF, H5, H5]
theorem oX (i : Nat) (hi : i < 18446744073709551616) (x : Sealed) (w0) :
  cP 116 #[uI i, .agg (o4 x).toArray] w0 fun v L => ∃ O d, v = sL O (R6 i x).length d ∧ L = [OwnA 5 1 O (R6 i x).length d (e9 (R6 i x))] := by
 refine co 14 [.tmp 4] func116 ?_
 have hpl := R8 x
 refine gw ?_
 intro b3
 refine gw ?_
 refine z7 (Q2 (vs := e9 [1]) uT elem5 rfl dc rfl (by intro v hv; rw [List.mem_singleton.1 hv]; rfl) (fun g6 => (gw ?_)))
 refine z9 en (fun w hw => sJ i 4 (.inl rfl) hi w) ?_
 rintro v L' ⟨g8, rfl, rfl⟩
 refine z7 (G1 (news := e9 (H7 i 4)) uT elem5 rfl rfl (x8 w5) (by rw [o3, D8]) (r9 _) kx ow (fun O1 d1 => (gw ?_)))
 refine e6 (a8 rfl (i4 (vs := o4 x) aH rT (by rw [k9]; exact ce91))) (z9 en (fun w hw => zcM x w) ?_)
 rintro v L' ⟨Op, dp, rfl, rfl⟩
 refine z7 (Q1 (news := e9 (mF x)) uT elem5 rfl rfl (x8 w5) (by rw [o3]; omega) (r9 _) kx ow (fun O2 d2 => (gw ?_)))
 refine a9 (D7 (sx [2]) ?_)
 refine ⟨O2, d2, by rw [bR, R8]; rfl, ?_⟩
 rw [bR, R8, R6, H5, H5]
 rfl
theorem gG (i : Nat) (hi : i < 18446744073709551616) (x : Go.E.Item) (w0) :
  cP 53 #[uI i, .agg (u9 x).toArray] w0 fun v L => ∃ O d, v = sL O (H9 i x).length d ∧ L = [OwnA 5 1 O (H9 i x).length d (e9 (H9 i x))] := by
 refine co 13 [.tmp 4] func53 ?_
 refine gw ?_
 intro b3
 refine gw ?_
 refine e6 (pV rfl) (gw ?_)
 refine eK rfl (fun b7 => ?_) (fun b7 => ?_)
 ·refine gw ?_
  refine z7 (Q2 (vs := e9 [0]) uT elem5 rfl dc rfl (by intro v hv; rw [List.mem_singleton.1 hv]; rfl) (fun g8 => (gw ?_)))
  refine a9 (D7 (sx [0]) ?_)
  have ht : x.there = false := by simpa using b7
  have e : H9 i x = [0] := by rw [H9, if_neg (by rw [ht]; decide)]
  rw [e]
  exact ⟨some ⟨g8, 0, none⟩, 1, rfl, rfl⟩
 ·refine gw ?_
  refine e6 (a8 rfl (Q0 (vs := o4 x.s) w5 rT (by rw [k9]; exact ce91) (cD x))) (z9 en (fun w hw => oX i hi x.s w) ?_)
  rintro v L' ⟨O, d, rfl, rfl⟩
  refine gw ?_
  refine a9 (D7 (sx [0]) ?_)
  have ht : x.there = true := by simpa using b7
  have e : H9 i x = R6 i x.s := by rw [H9, if_pos ht]
  rw [e]
  exact ⟨O, d, rfl, rfl⟩
theorem zaM (i : Nat) (hi : i < 4294967296) (x : Go.E.Item) (w0) :
  cP 112 #[uI i, .agg (u9 x).toArray] w0 fun v L => ∃ O d, v = .tuple #[sL O (H9 i x).length d, .nilIface] ∧ L = [OwnA 5 1 O (H9 i x).length d (e9 (H9 i x))] := by
 refine co 16 [.tmp 4, .tmp 5] func112 ?_
 refine gw ?_
 intro b3
 refine gw ?_
 refine e6 (pV rfl) (gw ?_)
 refine eK rfl (fun b8 => ?_) (fun b8 => ?_)
 ·refine gw ?_
  refine z7 (Q2 (vs := e9 [0]) uT elem5 rfl dc rfl (by intro v hv; rw [List.mem_singleton.1 hv]; rfl) (fun g9 => (gw ?_)))
  refine a9 (finQ.ret rv (sx [0]) ?_)
  have ht : x.there = false := by simpa using b8
  have e : H9 i x = [0] := by rw [H9, if_neg (by rw [ht]; decide)]
  rw [e]
  exact ⟨some ⟨g9, 0, none⟩, 1, rfl, rfl⟩
 ·refine gw ?_
  refine e6 (a8 rfl (Q0 (vs := o4 x.s) w5 rT (by rw [k9]; exact ce136) (cD x))) (z9 en (fun w hw => oY i hi x.s w) ?_)
  rintro v L' ⟨O, d, rfl, rfl⟩
  refine gw ?_
  refine a9 (finQ.ret rv (sx [0]) ?_)
  have ht : x.there = true := by simpa using b8
  have e : H9 i x = R6 i x.s := by rw [H9, if_pos ht]
  rw [e]
  exact ⟨O, d, rfl, rfl⟩
theorem gL (A) (c : Nat) (xs : List Nat) (B) (b : Nat) (l : List Go.E.Item) (hn : xs.length ≤ 16384) (w0) (lw : lW xs) (hR : Ro w0 [] (SlA A (w6 xs))) (hB : Ro w0 [] (SlA B (l.flatMap u9))) :
  cP 47 #[sL A xs.length c, sL B l.length b] w0 fun v L => X8 (M6 xs l) v L := by
 refine co 45 [.tmp 4, .tmp 5] func47 ?_
 refine gw ?_
 refine j0 rfl rfl (C7 rfl rfl) (fun h15 => gw ?_) (fun h15 => gw ?_)
 ·refine a9 (fR ?_)
  rw [tX (fun h => h15 h.1)]
  exact ⟨2, rfl, rfl⟩
 ·refine m6 112 1 (x3 ?_)
  refine l5 (γ := Nat × y8 × List Tx × Nat) (mr 19 25 (mr 4 7 [])) (fun g => [(19, iI g.1), (6, sL g.2.1 g.2.2.1.length g.2.2.2)]) (fun g => [OwnA 112 1 g.2.1 (g.2.2.1).length g.2.2.2 ((g.2.2.1).flatMap aI), C1 ((g.2.2.1).map u3)]) (fun g => g.1 ≤ xs.length ∧ g.2.2.1.map (fun t => t.2.2) = (List.range g.1).map (fun i => H9 (xs.getD i 0) (l.getD i z8)) ∧ ∀ j, j < g.1 → xs.getD j 0 < 4294967296) (fun g => xs.length - g.1) ((0, none, [], 0))
   ⟨Nat.zero_le _, rfl, fun j h => absurd h (Nat.not_lt_zero _)⟩ oa sp ?_
  rintro ⟨k, O, tt, d⟩ u ⟨hk, htt, hq⟩
  dsimp only at hk htt hq
  have htl : tt.length = k := by have := congrArg List.length htt; simpa using this
  show TC _ _ _ (puts [(19, iI k), (6, sL O tt.length d)] (scr _ u _)) [OwnA 112 1 O (tt).length d ((tt).flatMap aI), C1 ((tt).map u3)]
  refine gw ?_
  refine j0 rfl rfl (p9 rfl rfl) (fun h20 => gw ?_) (fun h20 => gw ?_)
  ·refine e6 (i5 uT cT rfl rfl ow (c9 hR) (by rw [D5]; omega)) (e6 (a8 rfl (A9 (v := uI ↑(xs.getD k 0)) (c9 hR) oT (F6 ow))) (gw ?_))
   refine j0 rfl rfl (T0 (b := 4294967296) rfl rfl) (fun h25 => gw ?_) (fun h25 => gw ?_)
   ·refine a9 (fR ?_)
    rw [tX (fun h => absurd (h.2 _ (E6 0 (show k < xs.length by omega))) ow)]
    exact ⟨1, rfl, rfl⟩
   ·refine e6 (i5 uT cT rfl rfl ow (c9 hB) (by rw [Z9]; omega)) (e6 (a8 rfl (H4 (vs := u9 (l.getD k z8)) (c9 hB) rT (by rw [m0]; exact ce138) (by rw [m0]; decide) (bQ ow rfl))) (z9 en (fun w hw => zaM (xs.getD k 0) ow (l.getD k z8) w) ?_))
    rintro v L' ⟨Ot, dt, rfl, rfl⟩
    refine T4 (pc pm1) (gw ?_)
    refine z7 (m5 (v := sL Ot (H9 (xs.getD k 0) (l.getD k z8)).length dt) uT elem112 dc rfl rfl (fun g41 => (z7 (Q1 (news := [sL Ot (H9 (xs.getD k 0) (l.getD k z8)).length dt]) uT elem112 rfl rfl (j8 (cs := [sL Ot (H9 (xs.getD k 0) (l.getD k z8)).length dt]) w5) rfl (by intro u hu; rw [List.mem_singleton.1 hu]; rfl) kx ow (fun O3 d3 => (gw ?_))))))
    refine ⟨(k + 1, O3, tt ++ [(Ot, dt, H9 (xs.getD k 0) (l.getD k z8))], d3), ?_, ?_, ⟨?_, (fm rfl (fm (by show sL O3 (tt.length + 1) d3 = sL O3 (tt ++ [_]).length d3; rw [List.length_append]; rfl) nb))⟩, (by dsimp only; simp only [List.length_append, List.flatMap_append, List.map_append]; exact sp)⟩
    ·exact ⟨by show _ ≤ _; dsimp only; omega, by dsimp only; rw [List.map_append, htt, List.range_succ, List.map_append, List.map_singleton, List.map_singleton], fun j hj => (Nat.lt_or_ge j k).elim (hq j) (fun h => by (obtain rfl : j = k := by omega); exact Nat.lt_of_not_le h25)⟩
    ·show _ < _; dsimp only; omega
    exact K8
  ·refine i7 (c8 (gw ?_))
   refine a9 (finQ.ret rv sr ?_)
   obtain rfl : k = xs.length := by omega
   rw [oV (Decidable.not_not.1 h15) (GV rfl hq)]
   exact ⟨O, d, tt, rfl, rfl, htt, by omega⟩
theorem wP (A) (n c : Nat) (B) (m d : Nat) (w0) :
  cP 48 #[.bool true, sL A n c, sL B m d] w0 fun v L => v = sL A n c ∧ L = [] := by
 refine co 10 [.tmp 6] func48 ?_
 refine gw ?_
 exact tR
theorem sQ (A) (n c : Nat) (B) (m d : Nat) (w0) :
  cP 48 #[.bool false, sL A n c, sL B m d] w0 fun v L => v = sL B m d ∧ L = [] := by
 refine co 10 [.tmp 6] func48 ?_
 refine gw ?_
 exact tR
theorem ze8 (q1 q2 q3 : Nat) (A) (n c : Nat) (B1) (n1 a1 : Nat) (B2) (n2 a2 : Nat) (w0) (h1 : Ro w0 [] (Blk q1 22 [sL A n c])) (h2 : Ro w0 [] (Blk q2 23 [sL B1 n1 a1])) (h3 : Ro w0 [] (Blk q3 23 [sL B2 n2 a2])) (hX : ∀ w, St w0 [] [] w → cP 47 #[sL A n c, sL B1 n1 a1] w (X8 none)) :
  cP 46 #[.bool true, pZ q1, pZ q2, pZ q3] w0 fun v L => X8 none v L := by
 refine co 15 [.tmp 5, .tmp 6] func46 ?_
 refine gw ?_
 refine dr ([], [5]) (gw ?_)
 refine I7 4 rfl en (fun w hw => cQ (wP B1 n1 a1 B2 n2 a2 w)) (P5 5 rfl en (fun w hw => hX w (hw.sub sn)) ?_)
 rintro v L' ⟨k1, rfl, rfl⟩
 refine gw ?_
 refine p7 (a9 (fR ?_))
 exact ⟨k1, rfl, rfl⟩
theorem ze9 (q1 q2 q3 : Nat) (A) (n c : Nat) (B1) (n1 a1 : Nat) (B2) (n2 a2 : Nat) (a : List (List UInt8)) (w0) (h1 : Ro w0 [] (Blk q1 22 [sL A n c])) (h2 : Ro w0 [] (Blk q2 23 [sL B1 n1 a1])) (h3 : Ro w0 [] (Blk q3 23 [sL B2 n2 a2])) (hX : ∀ w, St w0 [] [] w → cP 47 #[sL A n c, sL B1 n1 a1] w (X8 (some a))) :
  cP 46 #[.bool true, pZ q1, pZ q2, pZ q3] w0 fun v L => X8 (some a) v L := by
 refine co 15 [.tmp 5, .tmp 6] func46 ?_
 refine gw ?_
 refine dr ([], [5]) (gw ?_)
 refine I7 4 rfl en (fun w hw => cQ (wP B1 n1 a1 B2 n2 a2 w)) (P5 5 rfl en (fun w hw => hX w (hw.sub sn)) ?_)
 rintro v L' ⟨O1, d1, t1, rfl, rfl, e1, l1⟩
 refine gw ?_
 refine p7 (a9 (finQ.ret rv sr ?_))
 exact ⟨O1, d1, t1, rfl, rfl, e1, l1⟩
theorem ze7 (q1 q2 q3 : Nat) (A) (n c : Nat) (B1) (n1 a1 : Nat) (B2) (n2 a2 : Nat) (X : Option (List (List UInt8))) (w0) (h1 : Ro w0 [] (Blk q1 22 [sL A n c])) (h2 : Ro w0 [] (Blk q2 23 [sL B1 n1 a1])) (h3 : Ro w0 [] (Blk q3 23 [sL B2 n2 a2])) (hX : ∀ w, St w0 [] [] w → cP 47 #[sL A n c, sL B1 n1 a1] w (X8 X)) :
  cP 46 #[.bool true, pZ q1, pZ q2, pZ q3] w0 (X8 X) := by
 cases X with
 | none => exact ze8 q1 q2 q3 A n c B1 n1 a1 B2 n2 a2 w0 h1 h2 h3 hX
 | some a => exact ze9 q1 q2 q3 A n c B1 n1 a1 B2 n2 a2 a w0 h1 h2 h3 hX
theorem zcy (b3 b4 b5 : Nat) (A) (c : Nat) (xs : List Nat) (hn : xs.length ≤ 16384) (B1) (a1 : Nat) (l1 : List Go.E.Item) (B2) (a2 : Nat) (l2 : List Go.E.Item) (w0) (lw : lW xs) (hR : Ro w0 [] (SlA A (w6 xs))) (hB1 : Ro w0 [] (SlA B1 (l1.flatMap u9))) (hB2 : Ro w0 [] (SlA B2 (l2.flatMap u9))) (h3 : Ro w0 [] (Blk b3 22 [sL A xs.length c])) (h4 : Ro w0 [] (Blk b4 23 [sL B1 l1.length a1])) (h5 : Ro w0 [] (Blk b5 23 [sL B2 l2.length a2])) :
  ∀ w, St w0 [] [] w → cP 46 ((([.bool true] : List Value) ++ (#[pZ b3, pZ b4, pZ b5] : Array Value).toList).toArray) w (X8 (M6 xs l1)) := fun w s =>
 ze7 b3 b4 b5 A xs.length c B1 l1.length a1 B2 l2.length a2 (M6 xs l1) w (h3.go s nb) (h4.go s nb) (h5.go s nb) (fun w2 s2 => gL A c xs B1 a1 l1 hn w2 lw ((hR.go s nb).go s2 nb) ((hB1.go s nb).go s2 nb))
theorem zdH (q1 q2 q3 : Nat) (A) (n c : Nat) (B1) (n1 a1 : Nat) (B2) (n2 a2 : Nat) (w0) (h1 : Ro w0 [] (Blk q1 22 [sL A n c])) (h2 : Ro w0 [] (Blk q2 23 [sL B1 n1 a1])) (h3 : Ro w0 [] (Blk q3 23 [sL B2 n2 a2])) (hX : ∀ w, St w0 [] [] w → cP 47 #[sL A n c, sL B2 n2 a2] w (X8 none)) :
  cP 46 #[.bool false, pZ q1, pZ q2, pZ q3] w0 fun v L => X8 none v L := by
 refine co 15 [.tmp 5, .tmp 6] func46 ?_
 refine gw ?_
 refine dr ([], [5]) (gw ?_)
 refine I7 4 rfl en (fun w hw => cQ (sQ B1 n1 a1 B2 n2 a2 w)) (P5 5 rfl en (fun w hw => hX w (hw.sub sn)) ?_)
 rintro v L' ⟨k1, rfl, rfl⟩
 refine gw ?_
 refine p7 (a9 (fR ?_))
 exact ⟨k1, rfl, rfl⟩
theorem zdI (q1 q2 q3 : Nat) (A) (n c : Nat) (B1) (n1 a1 : Nat) (B2) (n2 a2 : Nat) (a : List (List UInt8)) (w0) (h1 : Ro w0 [] (Blk q1 22 [sL A n c])) (h2 : Ro w0 [] (Blk q2 23 [sL B1 n1 a1])) (h3 : Ro w0 [] (Blk q3 23 [sL B2 n2 a2])) (hX : ∀ w, St w0 [] [] w → cP 47 #[sL A n c, sL B2 n2 a2] w (X8 (some a))) :
  cP 46 #[.bool false, pZ q1, pZ q2, pZ q3] w0 fun v L => X8 (some a) v L := by
 refine co 15 [.tmp 5, .tmp 6] func46 ?_
 refine gw ?_
 refine dr ([], [5]) (gw ?_)
 refine I7 4 rfl en (fun w hw => cQ (sQ B1 n1 a1 B2 n2 a2 w)) (P5 5 rfl en (fun w hw => hX w (hw.sub sn)) ?_)
 rintro v L' ⟨O1, d1, t1, rfl, rfl, e1, l1⟩
 refine gw ?_
 refine p7 (a9 (finQ.ret rv sr ?_))
 exact ⟨O1, d1, t1, rfl, rfl, e1, l1⟩
theorem zdG (q1 q2 q3 : Nat) (A) (n c : Nat) (B1) (n1 a1 : Nat) (B2) (n2 a2 : Nat) (X : Option (List (List UInt8))) (w0) (h1 : Ro w0 [] (Blk q1 22 [sL A n c])) (h2 : Ro w0 [] (Blk q2 23 [sL B1 n1 a1])) (h3 : Ro w0 [] (Blk q3 23 [sL B2 n2 a2])) (hX : ∀ w, St w0 [] [] w → cP 47 #[sL A n c, sL B2 n2 a2] w (X8 X)) :
  cP 46 #[.bool false, pZ q1, pZ q2, pZ q3] w0 (X8 X) := by
 cases X with
 | none => exact zdH q1 q2 q3 A n c B1 n1 a1 B2 n2 a2 w0 h1 h2 h3 hX
 | some a => exact zdI q1 q2 q3 A n c B1 n1 a1 B2 n2 a2 a w0 h1 h2 h3 hX
theorem zbj (b3 b4 b5 : Nat) (A) (c : Nat) (xs : List Nat) (hn : xs.length ≤ 16384) (B1) (a1 : Nat) (l1 : List Go.E.Item) (B2) (a2 : Nat) (l2 : List Go.E.Item) (w0) (lw : lW xs) (hR : Ro w0 [] (SlA A (w6 xs))) (hB1 : Ro w0 [] (SlA B1 (l1.flatMap u9))) (hB2 : Ro w0 [] (SlA B2 (l2.flatMap u9))) (h3 : Ro w0 [] (Blk b3 22 [sL A xs.length c])) (h4 : Ro w0 [] (Blk b4 23 [sL B1 l1.length a1])) (h5 : Ro w0 [] (Blk b5 23 [sL B2 l2.length a2])) :
  ∀ w, St w0 [] [] w → cP 46 ((([.bool false] : List Value) ++ (#[pZ b3, pZ b4, pZ b5] : Array Value).toList).toArray) w (X8 (M6 xs l2)) := fun w s =>
 zdG b3 b4 b5 A xs.length c B1 l1.length a1 B2 l2.length a2 (M6 xs l2) w (h3.go s nb) (h4.go s nb) (h5.go s nb) (fun w2 s2 => gL A c xs B2 a2 l2 hn w2 lw ((hR.go s nb).go s2 nb) ((hB2.go s nb).go s2 nb))
theorem kH (A) (c : Nat) (xs : List Nat) (hn : xs.length ≤ 16384) (B1) (a1 : Nat) (l1 : List Go.E.Item) (B2) (a2 : Nat) (l2 : List Go.E.Item) (w0) (lw : lW xs) (hR : Ro w0 [] (SlA A (w6 xs))) (hB1 : Ro w0 [] (SlA B1 (l1.flatMap u9))) (hB2 : Ro w0 [] (SlA B2 (l2.flatMap u9))) :
  cP 9 #[sL A xs.length c, sL B1 l1.length a1, sL B2 l2.length a2] w0 fun v L => fF 114 (D4 (M6 xs l1) (M6 xs l2)) v L := by
 refine co 9 [.tmp 6] func9 ?_
 refine gw ?_
 intro b3
 refine gw ?_
 intro b4
 refine gw ?_
 intro b5
 refine gw ?_
 refine e6 (E9 (fs := []) (cs := [pZ b3, pZ b4, pZ b5]) rfl rfl) (z9 en (fun w hw => BH 46 #[pZ b3, pZ b4, pZ b5] en (M6 xs l1) (M6 xs l2) w (zcy b3 b4 b5 A c xs hn B1 a1 l1 B2 a2 l2 w lw (Rd.ro hR w hw) (Rd.ro hB1 w hw) (Rd.ro hB2 w hw) (Rd.at 2 rfl w hw) (Rd.at 1 rfl w hw) (Rd.at 0 rfl w hw)) (zbj b3 b4 b5 A c xs hn B1 a1 l1 B2 a2 l2 w lw (Rd.ro hR w hw) (Rd.ro hB1 w hw) (Rd.ro hB2 w hw) (Rd.at 2 rfl w hw) (Rd.at 1 rfl w hw) (Rd.at 0 rfl w hw))) ?_)
 rintro v L' ⟨O, d, pp, Ls, rfl, rfl, q1, q2, q3⟩
 refine gw ?_
 refine a9 (D7 (sx [0, 0]) ?_)
 exact ⟨O, d, pp, Ls, rfl, rfl, q1, q2, q3⟩
theorem J53 : p8 prog 53 := ⟨_, func53, by kernel_rfl, rfl⟩
theorem zco (B) (b : Nat) (l : List Go.E.Item) (hn : l.length ≤ 65536) (w0) (hB : Ro w0 [] (SlA B (l.flatMap u9))) :
  cP 12 #[sL B l.length b] w0 fun v L => ∃ O d, v = sL O l.length d ∧ L = [OwnA 93 50 O l.length d (l.flatMap u9)] := by
 refine co 23 [.tmp 2] func12 ?_
 refine gw ?_
 refine m6 93 50 ?_
 refine l5 (γ := Nat × y8 × Nat) (mr 8 14 [3, 5]) (fun g => [(8, iI g.1), (3, sL g.2.1 g.1 g.2.2)]) (fun g => [OwnA 93 50 g.2.1 g.1 g.2.2 ((l.take g.1).flatMap u9)]) (fun g => g.1 ≤ l.length) (fun g => l.length - g.1) ((0, none, 0))
  (Nat.zero_le _) oa sr ?_
 rintro ⟨k, O, d⟩ u hk
 dsimp only at hk
 show TC _ _ _ (puts [(8, iI k), (3, sL O k d)] (scr _ u _)) [OwnA 93 50 O k d ((l.take k).flatMap u9)]
 refine gw ?_
 refine j0 rfl rfl (p9 rfl rfl) (fun h9 => gw ?_) (fun h9 => gw ?_)
 ·refine e6 (i5 uT cT rfl rfl ow (c9 hB) (by rw [Z9]; omega)) (e6 (a8 rfl (H4 (vs := u9 (l.getD k z8)) (c9 hB) rT (by rw [m0]; exact ce138) (by rw [m0]; decide) (bQ ow rfl))) (gw ?_))
  intro b5
  refine j9 rfl (j5 (v := .agg (u9 (l.getD k z8)).toArray) rfl rfl (by rw [o6, m0]; exact ce138) (Y1 _) (by rw [o6, m0]; rfl) (gw ?_))
  refine D1 ([8], [7]) mixed (sk (sd I8)) (gw ?_)
  refine c6 4 rfl (a8 rfl (Q0 (vs := o4 (l.getD k z8).s) w5 rT (by rw [k9]; exact ce136) (cD _))) (I7 5 rfl en (fun w hw => BL (l.getD k z8).s w) (c6 6 rfl (n8 (F5 (vs := [.bool (l.getD k z8).there, .agg (o4 (l.getD k z8).s).toArray]) (pls := #[(0, 1), (1, 49)]) uT (fun w => by kernel_rfl) ze93 rfl ⟨rfl, (by show some (1, 49) = some (1, (o4 (l.getD k z8).s).length); rw [k9]), trivial⟩ (by rw [bD, m0]; rfl)) (by rw [bD])) (aO 7 rfl (m5 (v := .agg (u9 (l.getD k z8)).toArray) uT elem93 dc rfl (by rw [o6, m0]) (fun g19 => (G0 ?_))))))
  refine V5 8 rfl (Q1 (news := u9 (l.getD k z8)) uT elem93 rfl rfl (j8 (cs := u9 (l.getD k z8)) w5) (by rw [m0]) (List.all_eq_true.1 (Y1 _)) kx ow (fun O3 d3 => (G0 (gw ?_))))
  refine p7 (gw ?_)
  exact ⟨(k + 1, O3, d3), od, od, oz, (by dsimp only; rw [zH ow]; exact sp)⟩
 ·refine i7 (c8 (gw ?_))
  refine a9 (D7 sr ?_)
  obtain rfl : k = l.length := by omega
  rw [List.take_length]
  exact ⟨O, d, rfl, rfl⟩
theorem mK (A : y8) (c : Nat) (xs : List Nat) (hn : xs.length ≤ 16384) (B1 : y8) (a1 : Nat) (a : List Go.E.Item) (B2 : y8) (a2 : Nat) (b : List Go.E.Item) (w0 : World) (lw : ∀ x ∈ xs, x < 18446744073709551616) (hR : Ro w0 [] (SlA A (w6 xs))) (hB1 : Ro w0 [] (SlA B1 (a.flatMap u9))) (hB2 : Ro w0 [] (SlA B2 (b.flatMap u9))) :
    Calls prog 11 #[.slice A xs.length c, .slice B1 a.length a1, .slice B2 b.length a2] w0 (D0 w0 [] fun v L => fF 115 (D4 (M6 xs a) (M6 xs b)) v L) := by
  refine N4 (L := []) (n := 55) (rs := [.tmp 6]) func11 rfl rfl rfl (Nat.le_of_ble_eq_true rfl) (Sat.nil _) ?_
  refine m6 115 2 ?_
  refine x3 ?_
  refine c8 ?_
  refine c7 ?_
  refine C3 ?_
  refine l3 ?_
  refine c8 ?_
  refine c8 ?_
  refine c7 ?_
  refine o8 ?_
  refine e6 (D6 uT rfl) ?_
  refine o8 ?_
  refine e6 (D6 uT rfl) ?_
  refine j0 rfl rfl (C7 rfl rfl) (fun h13 => ?_) (fun h13 => ?_)
  · refine o8 ?_
    refine IM rfl rfl ?_
    refine IM rfl rfl ?_
    refine IM rfl rfl ?_
    refine IM rfl rfl ?_
    refine IM rfl rfl ?_
    refine e6 (gT rfl cw) ?_
    refine l3 ?_
    refine Q3 rfl ?_
    refine c8 ?_
    refine c7 ?_
    refine C3 ?_
    refine l3 ?_
    refine a9 (finQ.ret rv (Sub.trans (sk sr) (e5 pm1)) ?_)
    exact ⟨none, 0, [], [], rfl, rfl, (nA (fun q => h13 q.1)).symm, Nat.zero_le _, fun p hp => nomatch hp⟩
  · refine o8 ?_
    refine E8 rfl rfl rfl (m8 cw) ?_
    refine E8 rfl rfl rfl (D6 uT rfl) ?_
    refine E8 rfl rfl rfl (m8 cw) ?_
    refine E8 rfl rfl rfl (D6 uT rfl) ?_
    refine D9 rfl rfl rfl (C7 rfl rfl) (fun h19 => ?_) (fun h19 => ?_)
    · refine e6 (X7 rfl cw) ?_
      refine l3 ?_
      refine Q3 rfl ?_
      refine c8 ?_
      refine c7 ?_
      refine C3 ?_
      refine l3 ?_
      refine a9 (finQ.ret rv (Sub.trans (sk sr) (e5 pm1)) ?_)
      exact ⟨none, 0, [], [], rfl, rfl, (nA (fun q => h19 q.2.1)).symm, Nat.zero_le _, fun p hp => nomatch hp⟩
    · refine e6 (X7 rfl cw) ?_
      refine l3 ?_
      refine C4 rfl ?_
      refine w8 ?_
      refine c8 ?_
      refine c7 ?_
      refine C3 ?_
      refine l3 ?_
      refine c8 ?_
      refine c8 ?_
      refine c7 ?_
      refine C3 ?_
      refine l3 ?_
      refine C5 ?_
      refine m6 115 2 ?_
      refine x3 ?_
      refine l5 (γ := Nat × y8 × Nat × List Px × List Assn) [21, 22, 23, 24, 27, 28, 29, 30, 31, 6, 32, 33, 34, 35, 36, 37, 38, 39, 40, 41, 42, 43, 44, 45, 46, 47, 48, 49, 50, 51, 52, 53, 7, 25, 26, 8] (fun g => [(8, .int .i64 ((g.1 : Nat) : Int)), (7, .slice g.2.1 g.2.2.2.1.length g.2.2.1)]) (fun g => [OwnA 115 2 g.2.1 (g.2.2.2.1).length g.2.2.1 ((g.2.2.2.1).flatMap aZ), C1 (g.2.2.2.2), C1 [], OwnA 115 2 none 0 0 []]) (fun g => g.1 ≤ xs.length ∧ g.2.2.2.1.map N9 = (List.range g.1).map (IY xs a b) ∧ (∀ p ∈ g.2.2.2.1, u3 p.1 ∈ g.2.2.2.2 ∧ u3 p.2 ∈ g.2.2.2.2) ∧ ∀ j, j < g.1 → xs.getD j 0 < 4294967296) (fun g => xs.length - g.1) ((0, none, 0, [], []))
        ⟨Nat.zero_le _, rfl, (fun p hp => by cases hp), fun j h => absurd h (Nat.not_lt_zero _)⟩ ⟨Out.refl _ _, (List.forall_mem_cons.2 ⟨rfl, (List.forall_mem_cons.2 ⟨rfl, (fun _ h => nomatch h)⟩)⟩)⟩ (Sub.trans (sk sr) (e5 pm1)) ?_
      rintro ⟨k, O, d, ps, Ls⟩ u ⟨hk, hps, hmm, hq⟩
      dsimp only at hk hps hmm hq
      have hpl : ps.length = k := by have := congrArg List.length hps; simpa using this
      show TC _ _ _ (puts [(8, .int .i64 (k : Int)), (7, .slice O ps.length d)] (scr _ u _)) [OwnA 115 2 O (ps).length d ((ps).flatMap aZ), C1 (Ls), C1 [], OwnA 115 2 none 0 0 []]
      refine c8 ?_
      refine c8 ?_
      refine c7 ?_
      refine o8 ?_
      refine o8 ?_
      refine e6 (D6 uT rfl) ?_
      refine j0 rfl rfl (p9 rfl rfl) (fun h24 => ?_) (fun h24 => ?_)
      · refine l3 ?_
        refine Q3 rfl ?_
        refine w8 ?_
        refine c8 ?_
        refine C5 ?_
        refine c8 ?_
        refine c8 ?_
        refine c7 ?_
        refine o8 ?_
        refine o8 ?_
        refine e6 (i5 uT cT rfl rfl ow (c9 hR) (by rw [D5]; omega)) ?_
        refine e6 (a8 rfl (A9 (v := .int .u64 (((xs.getD k 0) : Nat) : Int)) (c9 hR) oT (F6 ow))) ?_
        refine j0 rfl rfl (M0 (b := 4294967295) rfl rfl) (fun h31 => ?_) (fun h31 => ?_)
        · refine l3 ?_
          refine Q3 rfl ?_
          refine c8 ?_
          refine c7 ?_
          refine C3 ?_
          refine l3 ?_
          refine a9 (finQ.ret rv (Sub.trans (sk (sk (sd (sd I8)))) (Sub.trans (sk (Sub.trans (sk sr) (e5 pm2))) (e5 pm3))) ?_)
          exact ⟨none, 0, [], [], rfl, rfl, (nA (fun q => absurd (q.2.2 _ (E6 0 (show k < xs.length by omega))) ow)).symm, Nat.zero_le _, fun p hp => nomatch hp⟩
        · refine l3 ?_
          refine C4 rfl ?_
          refine w8 ?_
          refine D1 ([21], [9, 18, 20]) mixed (sd (sk (sk (sk I8)))) ?_
          refine c6 0 rfl (m8 cw) ?_
          refine c6 1 rfl (m8 cw) ?_
          refine c6 2 rfl (m8 cw) ?_
          refine c6 3 rfl (i5 uT cT rfl rfl ow (c9 hR) (by rw [D5]; omega)) ?_
          refine c6 4 rfl (a8 rfl (A9 (v := .int .u64 (((xs.getD k 0) : Nat) : Int)) (c9 hR) oT (F6 ow))) ?_
          refine c6 5 rfl (m8 cw) ?_
          refine c6 6 rfl (m8 cw) ?_
          refine c6 7 rfl (i5 uT cT rfl rfl ow (c9 hB1) (by rw [Z9]; omega)) ?_
          refine c6 8 rfl (a8 rfl (H4 (vs := u9 (a.getD k z8)) (c9 hB1) rT (by rw [m0]; exact ce93) (by rw [m0]; decide) (bQ ow rfl))) ?_
          refine c6 10 rfl (m8 cw) ?_
          refine c6 11 rfl (m8 cw) ?_
          refine c6 12 rfl (i5 uT cT rfl rfl ow (c9 hR) (by rw [D5]; omega)) ?_
          refine c6 13 rfl (a8 rfl (A9 (v := .int .u64 (((xs.getD k 0) : Nat) : Int)) (c9 hR) oT (F6 ow))) ?_
          refine c6 14 rfl (m8 cw) ?_
          refine c6 15 rfl (m8 cw) ?_
          refine c6 16 rfl (i5 uT cT rfl rfl ow (c9 hB2) (by rw [Z9]; omega)) ?_
          refine c6 17 rfl (a8 rfl (H4 (vs := u9 (b.getD k z8)) (c9 hB2) rT (by rw [m0]; exact ce93) (by rw [m0]; decide) (bQ ow rfl))) ?_
          refine tH (k := 9) (sd (sk (sk (sk I8)))) rfl (by kernel_rfl) (by kernel_rfl) rfl rfl (l8 (Pre := []) (R := _) J53 rfl pr (fun w hw => gG (xs.getD k 0) ow (a.getD k z8) w) ?_)
          rintro v L' ⟨O1, d1, rfl, rfl⟩
          refine ⟨sd (sk (sk (sk (sk I8)))), ?_⟩
          refine tH (k := 18) (sd (sd (sk (sk (sk I8))))) rfl (by kernel_rfl) (by kernel_rfl) rfl rfl (l8 (Pre := []) (R := _) J53 rfl pr (fun w hw => gG (xs.getD k 0) ow (b.getD k z8) w) ?_)
          rintro v L' ⟨O2, d2, rfl, rfl⟩
          refine ⟨sd (sk (sk (sk (sk (sk I8))))), ?_⟩
          refine c6 19 rfl (A5 (a := .slice O1 (H9 (xs.getD k 0) (a.getD k z8)).length d1) (b := .slice O2 (H9 (xs.getD k 0) (b.getD k z8)).length d2) rfl rfl (build115 _ _ _ _ _ _)) ?_
          refine tH (k := 20) (sd (sd (sd (sk (sk (sk I8)))))) rfl (by kernel_rfl) (by kernel_rfl) rfl rfl (m5 (bytes := 48) (v := .agg #[.slice O1 (H9 (xs.getD k 0) (a.getD k z8)).length d1, .slice O2 (H9 (xs.getD k 0) (b.getD k z8)).length d2]) uT elem115 (by decide) rfl rfl (fun g52 => ⟨sd (sk (sk (sk (sk (sk (sk I8)))))), ?_⟩))
          refine FZ (k := 21) (sd (sd (sd (sd (sk (sk (sk I8))))))) rfl (by kernel_rfl) (by kernel_rfl) rfl rfl (S9 (bytes := 48) (news := [.slice O1 (H9 (xs.getD k 0) (a.getD k z8)).length d1, .slice O2 (H9 (xs.getD k 0) (b.getD k z8)).length d2]) uT elem115 rfl rfl (j8 (cs := [.slice O1 (H9 (xs.getD k 0) (a.getD k z8)).length d1, .slice O2 (H9 (xs.getD k 0) (b.getD k z8)).length d2]) w5) rfl CI (by simp only [maxLen]; omega) ow (fun O3 d3 => ⟨sd (sd (sd (sd (sk (sk (sk I8)))))), ?_⟩))
          refine c6 22 rfl (G9 cw) ?_
          refine R2 (sd (sd (sd (sd (sk (sk (sk I8))))))) (by kernel_rfl) ?_
          refine c7 ?_
          refine T4 (pm2.trans (pc pm3)) ?_
          refine T4 pm2 ?_
          refine o8 ?_
          refine e6 (v4 (b := 1) rfl rfl km) ?_
          refine C3 ?_
          refine l3 ?_
          refine ⟨(k + 1, O3, d3, ps ++ [((O1, d1, (H9 (xs.getD k 0) (a.getD k z8))), (O2, d2, (H9 (xs.getD k 0) (b.getD k z8))))], Ls ++ [u3 ((O1, d1, (H9 (xs.getD k 0) (a.getD k z8))), (O2, d2, (H9 (xs.getD k 0) (b.getD k z8)))).1] ++ [u3 ((O1, d1, (H9 (xs.getD k 0) (a.getD k z8))), (O2, d2, (H9 (xs.getD k 0) (b.getD k z8)))).2]), ?_, ?_, ⟨?_, (List.forall_mem_cons.2 ⟨rfl, (List.forall_mem_cons.2 ⟨(by show Value.slice O3 (ps.length + 1) d3 = Value.slice O3 (ps ++ [_]).length d3; rw [List.length_append]; rfl), (fun _ h => nomatch h)⟩)⟩)⟩, (by dsimp only; simp only [List.length_append, List.flatMap_append]; exact Sub.trans (sk (sk (sk (sk (sd I8))))) (Sub.trans (sk (sk (Sub.trans (sk (Sub.trans (sk sr) (e5 pm1))) (e5 pm1)))) (e5 pm2)))⟩
          · refine ⟨by show _ ≤ _; dsimp only; omega, ?_, fun p hp => ?_, fun j hj => (Nat.lt_or_ge j k).elim (hq j) (fun h => by (obtain rfl : j = k := by omega); omega)⟩
            · dsimp only; rw [List.map_append, hps, List.range_succ, List.map_append]; rfl
            · dsimp only at hp ⊢
              rcases List.mem_append.1 hp with hp | hp
              · exact ⟨List.mem_append.2 (.inl (List.mem_append.2 (.inl (hmm p hp).1))), List.mem_append.2 (.inl (List.mem_append.2 (.inl (hmm p hp).2)))⟩
              · rw [List.mem_singleton.1 hp]; exact ⟨List.mem_append.2 (.inl (List.mem_append.2 (.inr (List.mem_singleton.2 rfl)))), List.mem_append.2 (.inr (List.mem_singleton.2 rfl))⟩
          · show _ < _; dsimp only; omega
          repeat (first | exact Out.refl _ _ | refine Out.put rfl ?_ | refine U3 rfl ?_ | refine Out.scr ?_ | refine X4 rfl ?_)
      · refine l3 ?_
        refine C4 rfl ?_
        refine i7 ?_
        refine c8 ?_
        refine c7 ?_
        refine o8 ?_
        refine C3 ?_
        refine l3 ?_
        refine a9 (finQ.ret rv (sk (sk (sd (sd I8)))) ?_)
        obtain rfl : k = xs.length := by omega
        exact ⟨O, d, ps, Ls, rfl, rfl, by rw [hps, zfh (Decidable.not_not.1 h13) (Decidable.not_not.1 h19) (GV rfl hq)], by omega, hmm⟩
theorem J8 : p8 prog 8 := ⟨_, func8, by kernel_rfl, rfl⟩
theorem J10 : p8 prog 10 := ⟨_, func10, by kernel_rfl, rfl⟩
theorem J12 : p8 prog 12 := ⟨_, func12, by kernel_rfl, rfl⟩
end Go.Proofs.YtgdjcmehlhebdaaGreatDoor
