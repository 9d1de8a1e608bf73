/- Walks: the root that a span comes to -/
import Derived.Test.YtgdjcmehlhebdaaGreatDoorYV
import Derived.Test.YtgdjcmehlhebdaaGreatDoorXS
set_option maxHeartbeats 25600000
namespace Go.Proofs.YtgdjcmehlhebdaaGreatDoor
open _root_.Go.Proofs.Tryz
open Go.E
set_option maxRecDepth 4000
theorem zfw (l : List H32) (i : Nat) : (l.drop i).getD 0 zac = l.getD i zac := by simp [List.getD]
theorem zcM {f k h : Nat} {left : List H32} (hl : (zaq f h).length = left.length) (hk : k < h) (o : f / 2 ^ k % 2 = 1) : (zaq f k).length < left.length := by
 obtain ⟨rest, e⟩ := zgY (f := f) (k := k + 1) (h := h) hk
 rw [zb4 o] at e
 rw [← hl, e]; simp
theorem zbw {b k h : Nat} {right : List H32} (hl : (zan b h).length = right.length) (hk : k < h) (o : b / 2 ^ k % 2 = 0) : (zan b k).length < right.length := by
 obtain ⟨rest, e⟩ := zgZ (b := b) (k := k + 1) (h := h) hk
 rw [zb5 o] at e
 rw [← hl, e]; simp
theorem zj6 (A : OAd) (n c : Nat) (ps : List H32) (hn : ps.length = n) (hx : n ≤ 4096) (w0 : World) (hR : Ro w0 [] (SlA A (hcs ps))) :
  Calls prog 64 #[.slice A n c] w0 (Post w0 [] fun v L => ∃ O d, v = .slice O n d ∧ L = [OwnA 49 32 O n d (hcs ps)]) := by
 refine co 8 [.tmp 2] func64 ?_
 refine TC.ownNil 49 32 (gw ?_)
 refine S.r (Qt.eqsl uT rfl) (gw ?_)
 refine TC.ifb rfl (fun hnl => gw ?_) (fun hnl => gw ?_)
 ·refine TC.ret (fin1 sr ?_)
  obtain rfl : A = none := Option.isNone_iff_eq_none.1 hnl
  obtain rfl : ps = [] := zhF (SlA.none_nil hR.1)
  obtain rfl : n = 0 := hn.symm
  exact ⟨none, 0, rfl, rfl⟩
 ·refine S.o (OpV.slice0 uT ⟨_, elem49⟩ (fun g5 => ?_))
  refine gw ?_
  refine S.o (OpV.app0 (bytes := 32) (news := hcs ps) uT elem49 rfl rfl (Has.ro hR) (by rw [zah, hn]) (zeo _) (by simp only [maxLen]; omega) ow (fun O d => ?_))
  refine gw ?_
  refine TC.ret (fin1 (sk (sd sn)) ?_)
  exact ⟨O, d, by rw [Nat.zero_add]; rfl, by rw [Nat.zero_add, List.nil_append]⟩
theorem zh5 (z : Int) (hz : z < 0 ∨ 32 < z) (f : Nat) (m : Int) (w0 : World) : Calls prog 104 #[.int .i64 z, .int .u64 (f : Int), .int .i64 m] w0 (Ret w0 (.bool false)) := by
 refine Calls.ret ?_
 refine co 35 [.tmp 6] func104 ?_
 refine gw ?_
 refine S.dec rfl rfl (Qt.lti rfl rfl) (fun h9 => gw ?_) (fun h9 => gw ?_)
 ·refine TC.ret (fR ?_)
  exact ⟨rfl, rfl⟩
 ·refine S.qg rfl rfl rfl (Qt.dT (Qt.gti rfl rfl) ow) (gw ?_)
  refine TC.ret (fR ?_)
  exact ⟨rfl, rfl⟩
theorem zj7 (y : Int) (f : Nat) (z : Int) (hr : ∀ w, Calls prog 104 #[.int .i64 y, .int .u64 (f : Int), .int .i64 z] w (Ret w (.bool false))) (w0 : World) :
  Calls prog 63 #[.int .i64 y, .int .u64 (f : Int), .int .i64 z] w0 (Post w0 [] fun v L => v = .tuple #[.int .i64 0, .int .i64 0, .iface 73 (.int .i64 1)] ∧ L = []) := by
 refine co 23 [.cell 6 3, .cell 7 3, .tmp 8] func63 ?_
 refine gw ?_
 intro b6
 refine gw ?_
 intro b7
 refine gw ?_
 refine S.c0 J104 (fun w hw => hr w) (gw ?_)
 refine S.opN rfl (OpV.storeV1 rfl cw (by exact ce3) (by rfl) (by rfl) ?_)
 refine S.opN rfl (OpV.storeV0 rfl cw (by exact ce3) (by rfl) (by rfl) ?_)
 refine gw ?_
 refine TC.ret ?_
 refine finQ.ret (RVs.cell rfl (Ld.one hz1 oT (rfl)) (RVs.cell rfl (Ld.one hz0 oT (rfl)) rv)) sn ?_
 exact ⟨rfl, rfl⟩
theorem zha (y : Int) (f : Nat) (A : OAd) (c : Nat) (ls : List H32) (Bl : OAd) (cl : Nat) (left : List H32) (Br : OAd) (cr : Nat) (right : List H32) (hf : ∀ w, Calls prog 104 #[.int .i64 y, .int .u64 (f : Int), .int .i64 (ls.length : Int)] w (Ret w (.bool false))) (w0 : World) :
  Calls prog 19 #[.int .i64 y, .int .u64 (f : Int), .slice A ls.length c, .agg #[.slice Bl left.length cl, .slice Br right.length cr]] w0 (Post w0 [] fun v L => v = .tuple #[hv zac, .iface 73 (.int .i64 1)] ∧ L = []) := by
 refine co 106 [.cell 8 49, .tmp 9] func19 ?_
 refine gw ?_
 intro b7
 refine gw ?_
 intro b8
 refine gw ?_
 refine S.c0 J63 (fun w hw => Calls.ret (zj7 y f (ls.length : Int) hf w)) (gw ?_)
 refine S.r (Qt.build (v := hv zac) rfl (fun _ => by kernel_rfl)) (gw ?_)
 refine S.opN rfl (OpV.storeV0 (v := hv (zac)) rfl rfl (zab ce49) (zai _) (zaf _) ?_)
 refine gw ?_
 refine TC.ret ?_
 refine finQ.ret (RVs.cell rfl (Ld.all hz0 rT (zab ce49)) rv) sn ?_
 exact ⟨rfl, rfl⟩
theorem zlj (h f : Nat) (hh : h ≤ 32) (hf64 : f < 18446744073709551616) (A : OAd) (c : Nat) (ls : List H32) (Bl : OAd) (cl : Nat) (left : List H32) (Br : OAd) (cr : Nat) (right : List H32) (h1 : 1 ≤ ls.length) (h2 : ls.length ≤ 256) (hf : f + ls.length ≤ 2 ^ h) (h3 : ¬ ((zaq f h).length = left.length ∧ (zan (f + ls.length - 1) h).length = right.length)) (w0 : World) :
  Calls prog 19 #[.int .i64 (h : Int), .int .u64 (f : Int), .slice A ls.length c, .agg #[.slice Bl left.length cl, .slice Br right.length cr]] w0 (Post w0 [] fun v L => v = .tuple #[hv zac, .iface 73 (.int .i64 5)] ∧ L = []) := by
 refine co 106 [.cell 8 49, .tmp 9] func19 ?_
 refine gw ?_
 intro b7
 refine gw ?_
 intro b8
 refine gw ?_
 refine S.c0 J63 (fun w hw => Calls.ret (zgW h f ls.length hh hf64 hf h1 h2 w)) (gw ?_)
 refine S.dec rfl rfl (Qt.ne rfl rfl) (fun h38 => gw ?_) (fun h38 => gw ?_)
 ·refine S.r (Qt.build (v := hv zac) rfl (fun _ => by kernel_rfl)) (gw ?_)
  refine S.opN rfl (OpV.storeV0 (v := hv (zac)) rfl rfl (zab ce49) (zai _) (zaf _) ?_)
  refine gw ?_
  refine TC.ret ?_
  refine finQ.ret (RVs.cell rfl (Ld.all hz0 rT (zab ce49)) rv) sn ?_
  exact ⟨rfl, rfl⟩
 ·refine S.qg rfl rfl rfl (Qt.dT (Qt.ne rfl rfl) (fun e => h3 ⟨(Decidable.not_not.1 h38).symm, e.symm⟩)) (gw ?_)
  refine S.r (Qt.build (v := hv zac) rfl (fun _ => by kernel_rfl)) (gw ?_)
  refine S.opN rfl (OpV.storeV0 (v := hv (zac)) rfl rfl (zab ce49) (zai _) (zaf _) ?_)
  refine gw ?_
  refine TC.ret ?_
  refine finQ.ret (RVs.cell rfl (Ld.all hz0 rT (zab ce49)) rv) sn ?_
  exact ⟨rfl, rfl⟩
theorem zlk (h f : Nat) (hh : h ≤ 32) (hf64 : f < 18446744073709551616) (A : OAd) (c : Nat) (ls : List H32) (Bl : OAd) (cl : Nat) (left : List H32) (Br : OAd) (cr : Nat) (right : List H32) (h1 : 1 ≤ ls.length) (h2 : ls.length ≤ 256) (hf : f + ls.length ≤ 2 ^ h) (hLl : (zaq f h).length = left.length) (hLr : (zan (f + ls.length - 1) h).length = right.length) (hcl : left.length ≤ cl) (hcr : right.length ≤ cr) (w0 : World) (hR : Ro w0 [] (SlA A (hcs ls))) (hl : Ro w0 [] (SlA Bl (hcs left))) (hr : Ro w0 [] (SlA Br (hcs right))) (hT : Tabs 3 1 w0 []) :
  Calls prog 19 #[.int .i64 (h : Int), .int .u64 (f : Int), .slice A ls.length c, .agg #[.slice Bl left.length cl, .slice Br right.length cr]] w0 (Post w0 [] fun v L => v = .tuple #[hv (refN ((zaq f h).zip left) ((zan (f + ls.length - 1) h).zip right) ls f h 0), .nilIface] ∧ L = []) := by
 refine co 106 [.cell 8 49, .tmp 9] func19 ?_
 have hpw : 2 ^ h ≤ 4294967296 := (show 2 ^ h ≤ 2 ^ 32 from Nat.pow_le_pow_right (by decide) hh)
 have ctx : RowCtx f ls.length h ls left right := ⟨h1, hf, rfl, hLl, hLr⟩
 refine gw ?_
 intro b7
 refine gw ?_
 intro b8
 refine gw ?_
 refine S.c0 J63 (fun w hw => Calls.ret (zgW h f ls.length hh hf64 hf h1 h2 w)) (gw ?_)
 refine S.r (Qt.dF (Qt.ne rfl rfl) (fun e => e hLl.symm)) (gw ?_)
 refine S.qg rfl rfl rfl (Qt.dF (Qt.ne rfl rfl) (fun e => e hLr.symm)) (gw ?_)
 refine S.cn J64 (fun w hw => zj6 A ls.length c ls rfl ow w (Rd.ro hR w hw)) ?_
 rintro v L' ⟨O, d, rfl, rfl⟩
 refine gw ?_
 refine S.r (Qt.convert uT uT rfl km) ?_
 refine S.r (Qt.add rfl rfl km) ?_
 refine S.r (Qt.sub (b := 1) rfl rfl ow km) (gw ?_)
 refine dw ([], []) (gw ?_)
 refine D.fi (gw ?_)
 refine TC.loop (γ := Nat × (OAd × Nat) × (OAd × Nat) × (OAd × Nat)) [63, 64, 18, 65, 66, 67, 68, 69, 70, 71, 72, 73, 13, 74, 75, 16, 76, 77, 78, 79, 80, 81, 82, 83, 84, 85, 86, 17, 88, 89, 90, 91, 87, 92, 93, 12, 94, 95, 96, 97, 9, 98, 99, 100, 101, 14, 15, 102, 62] (fun g => [(62, .int .i64 ((g.1 : Nat) : Int)), (13, .slice g.2.1.1 (zat f ls.length h ls left right g.1).length g.2.1.2), (14, .int .u64 ((f / 2 ^ g.1 : Nat) : Int)), (15, .int .u64 (((f + ls.length - 1) / 2 ^ g.1 : Nat) : Int)), (16, .slice g.2.2.1.1 (left.drop (zaq f g.1).length).length g.2.2.1.2), (17, .slice g.2.2.2.1 (right.drop (zan (f + ls.length - 1) g.1).length).length g.2.2.2.2)]) (fun g => [OwnA 49 32 g.2.1.1 (zat f ls.length h ls left right g.1).length g.2.1.2 (hcs (zat f ls.length h ls left right g.1)), Blk b8 49 (List.replicate 32 (.int .u8 0)), Blk b7 43 [.slice Bl left.length cl, .slice Br right.length cr]]) (fun g => g.1 ≤ h ∧ Less Bl left (zaq f g.1).length g.2.2.1.1 g.2.2.1.2 ∧ Less Br right (zan (f + ls.length - 1) g.1).length g.2.2.2.1 g.2.2.2.2) (fun g => h - g.1) ((0, (O, d), (Bl, cl), (Br, cr)))
  ⟨Nat.zero_le _, Less.zero hcl, Less.zero hcr⟩ ⟨Out.refl _ _, (List.forall_mem_cons.2 ⟨rfl, (List.forall_mem_cons.2 ⟨(by show Value.slice O ls.length d = Value.slice O (zat f ls.length h ls left right 0).length d; rw [ctx.zero]), (List.forall_mem_cons.2 ⟨(by show Value.int .u64 (f : Int) = Value.int .u64 ((f / 2 ^ 0 : Nat) : Int); rw [Nat.pow_zero, Nat.div_one]), (List.forall_mem_cons.2 ⟨(by show Value.int .u64 (((f + ls.length - 1) : Nat) : Int) = Value.int .u64 (((f + ls.length - 1) / 2 ^ 0 : Nat) : Int); rw [Nat.pow_zero, Nat.div_one]), ag⟩)⟩)⟩)⟩)⟩ ((by dsimp only; rw [ctx.zero]; exact sr)) ?_
 rintro ⟨k, ⟨O, d⟩, ⟨A1, c1⟩, ⟨A2, c2⟩⟩ u ⟨hk, le1, le2⟩
 dsimp only at hk le1 le2
 obtain ⟨hpos, hlen⟩ := ctx.lenAt k
 refine gw ?_
 refine S.dec rfl rfl (Qt.lt rfl rfl) (fun h63 => gw ?_) (fun h63 => gw ?_)
 ·refine S.r (Qt.rem (b := 2) rfl rfl ow) ?_
  refine S.dec rfl rfl (Qt.eq (b := 1) rfl rfl) (fun h67 => gw ?_) (fun h67 => gw ?_)
  ·refine S.r (Qt.index (i := 0) uT cT rfl rfl (by show 0 < (left.drop (zaq f k).length).length; rw [List.length_drop]; have := zcM ctx.lenL (show k < h from h63) (show f / 2 ^ k % 2 = 1 from h67); omega) (Has.ro (le1.ro _ _ hl)) (by show 0 * 32 < (hcs (left.drop (zaq f k).length)).length; rw [zah, List.length_drop]; have := zcM ctx.lenL (show k < h from h63) (show f / 2 ^ k % 2 = 1 from h67); omega)) ?_
   refine S.r (Qt.as (Qt.load rfl (Ld.hashS (l := left.drop (zaq f k).length) (Has.ro (le1.ro _ _ hl)) 0 rT ce49 (by rw [List.length_drop]; have := zcM ctx.lenL (show k < h from h63) (show f / 2 ^ k % 2 = 1 from h67); omega) rfl)) (by rw [zfw])) ?_
   refine S.o (OpV.slice1 (bytes := 32) (v := hv (left.getD (zaq f k).length zac)) uT elem49 (by decide) rfl (zaf _) (fun g72 => ?_))
   refine S.o (OpV.con (Pre := [OwnA 49 32 O (zat f ls.length h ls left right k).length d (hcs (zat f ls.length h ls left right k))]) (R := _) J65 rfl pm1 (fun w hw => zli O d (zat f ls.length h ls left right k) g72 (left.getD (zaq f k).length zac) hpos ow w hw.sat.left (Ro.of_rest hw (.head _))) ?_)
   rintro v L' ⟨O1, d1, rfl, rfl⟩
   refine gw ?_
   refine S.r (Qt.slice_lo (l := 1) uT cT rfl rfl (by show 1 ≤ (left.drop (zaq f k).length).length; rw [List.length_drop]; have := zcM ctx.lenL (show k < h from h63) (show f / 2 ^ k % 2 = 1 from h67); omega)) (gw ?_)
   refine S.r (Qt.rem (b := 2) rfl rfl ow) ?_
   refine S.dec rfl rfl (Qt.eq (b := 0) rfl rfl) (fun h78 => gw ?_) (fun h78 => ?_)
   ·refine S.r (Qt.index (i := 0) uT cT rfl rfl (by show 0 < (right.drop (zan (f + ls.length - 1) k).length).length; rw [List.length_drop]; have := zbw ctx.lenR (show k < h from h63) (show (f + ls.length - 1) / 2 ^ k % 2 = 0 from h78); omega) (Has.ro (le2.ro _ _ hr)) (by show 0 * 32 < (hcs (right.drop (zan (f + ls.length - 1) k).length)).length; rw [zah, List.length_drop]; have := zbw ctx.lenR (show k < h from h63) (show (f + ls.length - 1) / 2 ^ k % 2 = 0 from h78); omega)) ?_
    refine S.r (Qt.as (Qt.load rfl (Ld.hashS (l := right.drop (zan (f + ls.length - 1) k).length) (Has.ro (le2.ro _ _ hr)) 0 rT ce49 (by rw [List.length_drop]; have := zbw ctx.lenR (show k < h from h63) (show (f + ls.length - 1) / 2 ^ k % 2 = 0 from h78); omega) rfl)) (by rw [zfw])) ?_
    refine S.o (OpV.slice1 (bytes := 32) (v := hv (right.getD (zan (f + ls.length - 1) k).length zac)) uT elem49 (by decide) rfl (zaf _) (fun g83 => ?_))
    refine S.o (OpV.app1 (bytes := 32) (news := hvl ((right.getD (zan (f + ls.length - 1) k).length zac))) uT elem49 rfl rfl (Has.blk (cs := hvl (right.getD (zan (f + ls.length - 1) k).length zac)) hz0) (by rw [zag]) (zaw _) (by first | (simp only [maxLen]; omega) | (show (zat f ls.length h ls left right k).length + 1 ≤ maxLen; simp only [maxLen]; omega)) (by first | omega | (show ((zat f ls.length h ls left right k).length + 1) * 32 ≤ _; omega)) (fun O2 d2 => ?_))
    refine gw ?_
    refine S.r (Qt.slice_lo (l := 1) uT cT rfl rfl (by show 1 ≤ (right.drop (zan (f + ls.length - 1) k).length).length; rw [List.length_drop]; have := zbw ctx.lenR (show k < h from h63) (show (f + ls.length - 1) / 2 ^ k % 2 = 0 from h78); omega)) ?_
    have hmid : hcs ((left.getD (zaq f k).length zac) :: (zat f ls.length h ls left right k)) ++ hvl (right.getD (zan (f + ls.length - 1) k).length zac) = hcs (zaK f ls.length h ls left right k) := by rw [zaK, if_pos (show f / 2 ^ k % 2 = 1 from h67), if_pos (show (f + ls.length - 1) / 2 ^ k % 2 = 0 from h78)]; simp [hcs]
    have hml : (zat f ls.length h ls left right k).length + 1 + 1 = 2 * ((f + ls.length - 1) / 2 ^ (k + 1) + 1 - f / 2 ^ (k + 1)) := by rw [← ctx.midLen (show k < h from h63), zaK, if_pos (show f / 2 ^ k % 2 = 1 from h67), if_pos (show (f + ls.length - 1) / 2 ^ k % 2 = 0 from h78)]; simp
    refine gw ?_
    refine S.cn J66 (fun w hw => (by have cap := zaL (hw.ok (List.mem_of_getElem? (i := 1) rfl)); have q := zdw (k + 1) ow ow O2 ((f + ls.length - 1) / 2 ^ (k + 1) + 1 - f / 2 ^ (k + 1)) d2 (zaK f ls.length h ls left right k) (ctx.midLen (show k < h from h63)) (by rw [← hml]; exact cap.1) (by have := cap.2.1; simp only [maxLen] at this; omega) (by have := hlen; omega) w (by rw [← hmid]; exact (Rd.own (Rd.at 1 rfl) w hw)) (hT.at hw); rw [← hml] at q; exact q : Calls prog 66 #[.int .i64 ((k + 1 : Nat) : Int), .slice O2 ((zat f ls.length h ls left right k).length + 1 + 1) d2] w (Post w [] fun v L => ∃ O d, v = .tuple #[.slice O ((f + ls.length - 1) / 2 ^ (k + 1) + 1 - f / 2 ^ (k + 1)) d, .nilIface] ∧ L = [OwnA 49 32 O ((f + ls.length - 1) / 2 ^ (k + 1) + 1 - f / 2 ^ (k + 1)) d (hcs ((List.finRange ((f + ls.length - 1) / 2 ^ (k + 1) + 1 - f / 2 ^ (k + 1))).map (fun i : Fin ((f + ls.length - 1) / 2 ^ (k + 1) + 1 - f / 2 ^ (k + 1)) => zbr (k + 1) (zaK f ls.length h ls left right k) i.val)))]))) ?_
    rintro v L' ⟨O3, d3, rfl, rfl⟩
    have hnx : (List.finRange ((f + ls.length - 1) / 2 ^ (k + 1) + 1 - f / 2 ^ (k + 1))).map (fun i : Fin ((f + ls.length - 1) / 2 ^ (k + 1) + 1 - f / 2 ^ (k + 1)) => zbr (k + 1) (zaK f ls.length h ls left right k) i.val) = (zat f ls.length h ls left right (k + 1)) := ctx.next (show k < h from h63) rfl
    have hnl : ((f + ls.length - 1) / 2 ^ (k + 1) + 1 - f / 2 ^ (k + 1)) = (zat f ls.length h ls left right (k + 1)).length := by rw [zat, za8]
    refine gw ?_
    refine S.r (Qt.as (Qt.quo (b := 2) rfl rfl ow (by have := Nat.div_le_self f (2 ^ k); simp only [kmax]; omega)) (by rw [zay])) (gw ?_)
    refine S.r (Qt.as (Qt.quo (b := 2) rfl rfl ow (by have := Nat.div_le_self (f + ls.length - 1) (2 ^ k); simp only [kmax]; omega)) (by rw [zay])) (gw ?_)
    refine ⟨(k + 1, (O3, d3), ((if c1 = 1 then A1 else A1.map (·.add (1 * 32))), (c1 - 1)), ((if c2 = 1 then A2 else A2.map (·.add (1 * 32))), (c2 - 1))), ?_, ?_, ⟨?_, (List.forall_mem_cons.2 ⟨rfl, (List.forall_mem_cons.2 ⟨(by show Value.slice O3 ((f + ls.length - 1) / 2 ^ (k + 1) + 1 - f / 2 ^ (k + 1)) d3 = Value.slice O3 (zat f ls.length h ls left right (k + 1)).length d3; rw [← hnl]), (List.forall_mem_cons.2 ⟨rfl, (List.forall_mem_cons.2 ⟨rfl, (List.forall_mem_cons.2 ⟨(by show Value.slice (if c1 = 1 then A1 else A1.map (·.add (1 * 32))) ((left.drop (zaq f k).length).length - 1) (c1 - 1) = Value.slice (if c1 = 1 then A1 else A1.map (·.add (1 * 32))) (left.drop (zaq f (k + 1)).length).length (c1 - 1); rw [zb4 (show f / 2 ^ k % 2 = 1 from h67), zaJ, List.length_drop, List.length_drop]; congr 1), (List.forall_mem_cons.2 ⟨(by show Value.slice (if c2 = 1 then A2 else A2.map (·.add (1 * 32))) ((right.drop (zan (f + ls.length - 1) k).length).length - 1) (c2 - 1) = Value.slice (if c2 = 1 then A2 else A2.map (·.add (1 * 32))) (right.drop (zan (f + ls.length - 1) (k + 1)).length).length (c2 - 1); rw [zb5 (show (f + ls.length - 1) / 2 ^ k % 2 = 0 from h78), zaJ, List.length_drop, List.length_drop]; congr 1), (fun _ h => nomatch h)⟩)⟩)⟩)⟩)⟩)⟩)⟩, (by dsimp only; rw [hnx, hnl]; exact Sub.trans (sk (sk (sk (sd (sd (sd sn0)))))) (sk (Sub.trans (sk (Sub.trans (sk sr) (Sub.of_perm pm3))) (Sub.of_perm pm3))))⟩
    ·exact ⟨by show _ ≤ _; dsimp only; omega, by rw [zb4 (show f / 2 ^ k % 2 = 1 from h67), zaJ]; exact le1.next (Less.one le1.cap (by (try dsimp only); rw [List.length_drop]; have := zcM ctx.lenL (show k < h from h63) (show f / 2 ^ k % 2 = 1 from h67); omega)), by rw [zb5 (show (f + ls.length - 1) / 2 ^ k % 2 = 0 from h78), zaJ]; exact le2.next (Less.one le2.cap (by (try dsimp only); rw [List.length_drop]; have := zbw ctx.lenR (show k < h from h63) (show (f + ls.length - 1) / 2 ^ k % 2 = 0 from h78); omega))⟩
    ·show _ < _; dsimp only; omega
    exact outs
   ·have hmid : hcs ((left.getD (zaq f k).length zac) :: (zat f ls.length h ls left right k)) = hcs (zaK f ls.length h ls left right k) := by rw [zaK, if_pos (show f / 2 ^ k % 2 = 1 from h67), if_neg (show ¬ (f + ls.length - 1) / 2 ^ k % 2 = 0 from h78)]; simp [hcs]
    have hml : (zat f ls.length h ls left right k).length + 1 = 2 * ((f + ls.length - 1) / 2 ^ (k + 1) + 1 - f / 2 ^ (k + 1)) := by rw [← ctx.midLen (show k < h from h63), zaK, if_pos (show f / 2 ^ k % 2 = 1 from h67), if_neg (show ¬ (f + ls.length - 1) / 2 ^ k % 2 = 0 from h78)]; simp
    refine gw ?_
    refine S.cn J66 (fun w hw => (by have cap := zaL (hw.ok (List.mem_of_getElem? (i := 0) rfl)); have q := zdw (k + 1) ow ow O1 ((f + ls.length - 1) / 2 ^ (k + 1) + 1 - f / 2 ^ (k + 1)) d1 (zaK f ls.length h ls left right k) (ctx.midLen (show k < h from h63)) (by rw [← hml]; exact cap.1) (by have := cap.2.1; simp only [maxLen] at this; omega) (by have := hlen; omega) w (by rw [← hmid]; exact (Rd.own (Rd.at 0 rfl) w hw)) (hT.at hw); rw [← hml] at q; exact q : Calls prog 66 #[.int .i64 ((k + 1 : Nat) : Int), .slice O1 ((zat f ls.length h ls left right k).length + 1) d1] w (Post w [] fun v L => ∃ O d, v = .tuple #[.slice O ((f + ls.length - 1) / 2 ^ (k + 1) + 1 - f / 2 ^ (k + 1)) d, .nilIface] ∧ L = [OwnA 49 32 O ((f + ls.length - 1) / 2 ^ (k + 1) + 1 - f / 2 ^ (k + 1)) d (hcs ((List.finRange ((f + ls.length - 1) / 2 ^ (k + 1) + 1 - f / 2 ^ (k + 1))).map (fun i : Fin ((f + ls.length - 1) / 2 ^ (k + 1) + 1 - f / 2 ^ (k + 1)) => zbr (k + 1) (zaK f ls.length h ls left right k) i.val)))]))) ?_
    rintro v L' ⟨O3, d3, rfl, rfl⟩
    have hnx : (List.finRange ((f + ls.length - 1) / 2 ^ (k + 1) + 1 - f / 2 ^ (k + 1))).map (fun i : Fin ((f + ls.length - 1) / 2 ^ (k + 1) + 1 - f / 2 ^ (k + 1)) => zbr (k + 1) (zaK f ls.length h ls left right k) i.val) = (zat f ls.length h ls left right (k + 1)) := ctx.next (show k < h from h63) rfl
    have hnl : ((f + ls.length - 1) / 2 ^ (k + 1) + 1 - f / 2 ^ (k + 1)) = (zat f ls.length h ls left right (k + 1)).length := by rw [zat, za8]
    refine gw ?_
    refine S.r (Qt.as (Qt.quo (b := 2) rfl rfl ow (by have := Nat.div_le_self f (2 ^ k); simp only [kmax]; omega)) (by rw [zay])) (gw ?_)
    refine S.r (Qt.as (Qt.quo (b := 2) rfl rfl ow (by have := Nat.div_le_self (f + ls.length - 1) (2 ^ k); simp only [kmax]; omega)) (by rw [zay])) (gw ?_)
    refine ⟨(k + 1, (O3, d3), ((if c1 = 1 then A1 else A1.map (·.add (1 * 32))), (c1 - 1)), (A2, c2)), ?_, ?_, ⟨?_, (List.forall_mem_cons.2 ⟨rfl, (List.forall_mem_cons.2 ⟨(by show Value.slice O3 ((f + ls.length - 1) / 2 ^ (k + 1) + 1 - f / 2 ^ (k + 1)) d3 = Value.slice O3 (zat f ls.length h ls left right (k + 1)).length d3; rw [← hnl]), (List.forall_mem_cons.2 ⟨rfl, (List.forall_mem_cons.2 ⟨rfl, (List.forall_mem_cons.2 ⟨(by show Value.slice (if c1 = 1 then A1 else A1.map (·.add (1 * 32))) ((left.drop (zaq f k).length).length - 1) (c1 - 1) = Value.slice (if c1 = 1 then A1 else A1.map (·.add (1 * 32))) (left.drop (zaq f (k + 1)).length).length (c1 - 1); rw [zb4 (show f / 2 ^ k % 2 = 1 from h67), zaJ, List.length_drop, List.length_drop]; congr 1), (List.forall_mem_cons.2 ⟨(by show Value.slice A2 (right.drop (zan (f + ls.length - 1) k).length).length c2 = Value.slice A2 (right.drop (zan (f + ls.length - 1) (k + 1)).length).length c2; rw [zcq (show ¬ (f + ls.length - 1) / 2 ^ k % 2 = 0 from h78)]), (fun _ h => nomatch h)⟩)⟩)⟩)⟩)⟩)⟩)⟩, (by dsimp only; rw [hnx, hnl]; exact Sub.trans (sk (sk (sk (sd (sd sn0))))) (sk (Sub.trans (sk (Sub.trans (sk sr) (Sub.of_perm pm2))) (Sub.of_perm pm2))))⟩
    ·exact ⟨by show _ ≤ _; dsimp only; omega, by rw [zb4 (show f / 2 ^ k % 2 = 1 from h67), zaJ]; exact le1.next (Less.one le1.cap (by (try dsimp only); rw [List.length_drop]; have := zcM ctx.lenL (show k < h from h63) (show f / 2 ^ k % 2 = 1 from h67); omega)), by rw [zcq (show ¬ (f + ls.length - 1) / 2 ^ k % 2 = 0 from h78)]; exact le2⟩
    ·show _ < _; dsimp only; omega
    exact outs
  ·refine S.r (Qt.rem (b := 2) rfl rfl ow) ?_
   refine S.dec rfl rfl (Qt.eq (b := 0) rfl rfl) (fun h78 => gw ?_) (fun h78 => ?_)
   ·refine S.r (Qt.index (i := 0) uT cT rfl rfl (by show 0 < (right.drop (zan (f + ls.length - 1) k).length).length; rw [List.length_drop]; have := zbw ctx.lenR (show k < h from h63) (show (f + ls.length - 1) / 2 ^ k % 2 = 0 from h78); omega) (Has.ro (le2.ro _ _ hr)) (by show 0 * 32 < (hcs (right.drop (zan (f + ls.length - 1) k).length)).length; rw [zah, List.length_drop]; have := zbw ctx.lenR (show k < h from h63) (show (f + ls.length - 1) / 2 ^ k % 2 = 0 from h78); omega)) ?_
    refine S.r (Qt.as (Qt.load rfl (Ld.hashS (l := right.drop (zan (f + ls.length - 1) k).length) (Has.ro (le2.ro _ _ hr)) 0 rT ce49 (by rw [List.length_drop]; have := zbw ctx.lenR (show k < h from h63) (show (f + ls.length - 1) / 2 ^ k % 2 = 0 from h78); omega) rfl)) (by rw [zfw])) ?_
    refine S.o (OpV.slice1 (bytes := 32) (v := hv (right.getD (zan (f + ls.length - 1) k).length zac)) uT elem49 (by decide) rfl (zaf _) (fun g83 => ?_))
    refine S.o (OpV.app1 (bytes := 32) (news := hvl ((right.getD (zan (f + ls.length - 1) k).length zac))) uT elem49 rfl rfl (Has.blk (cs := hvl (right.getD (zan (f + ls.length - 1) k).length zac)) hz0) (by rw [zag]) (zaw _) (by first | (simp only [maxLen]; omega) | (show (zat f ls.length h ls left right k).length + 1 ≤ maxLen; simp only [maxLen]; omega)) (by first | omega | (show ((zat f ls.length h ls left right k).length + 1) * 32 ≤ _; omega)) (fun O2 d2 => ?_))
    refine gw ?_
    refine S.r (Qt.slice_lo (l := 1) uT cT rfl rfl (by show 1 ≤ (right.drop (zan (f + ls.length - 1) k).length).length; rw [List.length_drop]; have := zbw ctx.lenR (show k < h from h63) (show (f + ls.length - 1) / 2 ^ k % 2 = 0 from h78); omega)) ?_
    have hmid : hcs (zat f ls.length h ls left right k) ++ hvl (right.getD (zan (f + ls.length - 1) k).length zac) = hcs (zaK f ls.length h ls left right k) := by rw [zaK, if_neg (show ¬ f / 2 ^ k % 2 = 1 from h67), if_pos (show (f + ls.length - 1) / 2 ^ k % 2 = 0 from h78)]; simp [hcs]
    have hml : (zat f ls.length h ls left right k).length + 1 = 2 * ((f + ls.length - 1) / 2 ^ (k + 1) + 1 - f / 2 ^ (k + 1)) := by rw [← ctx.midLen (show k < h from h63), zaK, if_neg (show ¬ f / 2 ^ k % 2 = 1 from h67), if_pos (show (f + ls.length - 1) / 2 ^ k % 2 = 0 from h78)]; simp
    refine gw ?_
    refine S.cn J66 (fun w hw => (by have cap := zaL (hw.ok (List.mem_of_getElem? (i := 1) rfl)); have q := zdw (k + 1) ow ow O2 ((f + ls.length - 1) / 2 ^ (k + 1) + 1 - f / 2 ^ (k + 1)) d2 (zaK f ls.length h ls left right k) (ctx.midLen (show k < h from h63)) (by rw [← hml]; exact cap.1) (by have := cap.2.1; simp only [maxLen] at this; omega) (by have := hlen; omega) w (by rw [← hmid]; exact (Rd.own (Rd.at 1 rfl) w hw)) (hT.at hw); rw [← hml] at q; exact q : Calls prog 66 #[.int .i64 ((k + 1 : Nat) : Int), .slice O2 ((zat f ls.length h ls left right k).length + 1) d2] w (Post w [] fun v L => ∃ O d, v = .tuple #[.slice O ((f + ls.length - 1) / 2 ^ (k + 1) + 1 - f / 2 ^ (k + 1)) d, .nilIface] ∧ L = [OwnA 49 32 O ((f + ls.length - 1) / 2 ^ (k + 1) + 1 - f / 2 ^ (k + 1)) d (hcs ((List.finRange ((f + ls.length - 1) / 2 ^ (k + 1) + 1 - f / 2 ^ (k + 1))).map (fun i : Fin ((f + ls.length - 1) / 2 ^ (k + 1) + 1 - f / 2 ^ (k + 1)) => zbr (k + 1) (zaK f ls.length h ls left right k) i.val)))]))) ?_
    rintro v L' ⟨O3, d3, rfl, rfl⟩
    have hnx : (List.finRange ((f + ls.length - 1) / 2 ^ (k + 1) + 1 - f / 2 ^ (k + 1))).map (fun i : Fin ((f + ls.length - 1) / 2 ^ (k + 1) + 1 - f / 2 ^ (k + 1)) => zbr (k + 1) (zaK f ls.length h ls left right k) i.val) = (zat f ls.length h ls left right (k + 1)) := ctx.next (show k < h from h63) rfl
    have hnl : ((f + ls.length - 1) / 2 ^ (k + 1) + 1 - f / 2 ^ (k + 1)) = (zat f ls.length h ls left right (k + 1)).length := by rw [zat, za8]
    refine gw ?_
    refine S.r (Qt.as (Qt.quo (b := 2) rfl rfl ow (by have := Nat.div_le_self f (2 ^ k); simp only [kmax]; omega)) (by rw [zay])) (gw ?_)
    refine S.r (Qt.as (Qt.quo (b := 2) rfl rfl ow (by have := Nat.div_le_self (f + ls.length - 1) (2 ^ k); simp only [kmax]; omega)) (by rw [zay])) (gw ?_)
    refine ⟨(k + 1, (O3, d3), (A1, c1), ((if c2 = 1 then A2 else A2.map (·.add (1 * 32))), (c2 - 1))), ?_, ?_, ⟨?_, (List.forall_mem_cons.2 ⟨rfl, (List.forall_mem_cons.2 ⟨(by show Value.slice O3 ((f + ls.length - 1) / 2 ^ (k + 1) + 1 - f / 2 ^ (k + 1)) d3 = Value.slice O3 (zat f ls.length h ls left right (k + 1)).length d3; rw [← hnl]), (List.forall_mem_cons.2 ⟨rfl, (List.forall_mem_cons.2 ⟨rfl, (List.forall_mem_cons.2 ⟨(by show Value.slice A1 (left.drop (zaq f k).length).length c1 = Value.slice A1 (left.drop (zaq f (k + 1)).length).length c1; rw [zcp (show ¬ f / 2 ^ k % 2 = 1 from h67)]), (List.forall_mem_cons.2 ⟨(by show Value.slice (if c2 = 1 then A2 else A2.map (·.add (1 * 32))) ((right.drop (zan (f + ls.length - 1) k).length).length - 1) (c2 - 1) = Value.slice (if c2 = 1 then A2 else A2.map (·.add (1 * 32))) (right.drop (zan (f + ls.length - 1) (k + 1)).length).length (c2 - 1); rw [zb5 (show (f + ls.length - 1) / 2 ^ k % 2 = 0 from h78), zaJ, List.length_drop, List.length_drop]; congr 1), (fun _ h => nomatch h)⟩)⟩)⟩)⟩)⟩)⟩)⟩, (by dsimp only; rw [hnx, hnl]; exact Sub.trans (sk (sk (sk (sd (sd sn0))))) (sk (Sub.trans (sk (Sub.trans (sk sr) (Sub.of_perm pm2))) (Sub.of_perm pm2))))⟩
    ·exact ⟨by show _ ≤ _; dsimp only; omega, by rw [zcp (show ¬ f / 2 ^ k % 2 = 1 from h67)]; exact le1, by rw [zb5 (show (f + ls.length - 1) / 2 ^ k % 2 = 0 from h78), zaJ]; exact le2.next (Less.one le2.cap (by (try dsimp only); rw [List.length_drop]; have := zbw ctx.lenR (show k < h from h63) (show (f + ls.length - 1) / 2 ^ k % 2 = 0 from h78); omega))⟩
    ·show _ < _; dsimp only; omega
    exact outs
   ·have hmid : hcs (zat f ls.length h ls left right k) = hcs (zaK f ls.length h ls left right k) := by rw [zaK, if_neg (show ¬ f / 2 ^ k % 2 = 1 from h67), if_neg (show ¬ (f + ls.length - 1) / 2 ^ k % 2 = 0 from h78)]; simp [hcs]
    have hml : (zat f ls.length h ls left right k).length = 2 * ((f + ls.length - 1) / 2 ^ (k + 1) + 1 - f / 2 ^ (k + 1)) := by rw [← ctx.midLen (show k < h from h63), zaK, if_neg (show ¬ f / 2 ^ k % 2 = 1 from h67), if_neg (show ¬ (f + ls.length - 1) / 2 ^ k % 2 = 0 from h78)]; simp
    refine gw ?_
    refine S.cn J66 (fun w hw => (by have cap := zaL (hw.ok (List.mem_of_getElem? (i := 0) rfl)); have q := zdw (k + 1) ow ow O ((f + ls.length - 1) / 2 ^ (k + 1) + 1 - f / 2 ^ (k + 1)) d (zaK f ls.length h ls left right k) (ctx.midLen (show k < h from h63)) (by rw [← hml]; exact cap.1) (by have := cap.2.1; simp only [maxLen] at this; omega) (by have := hlen; omega) w (by rw [← hmid]; exact (Rd.own (Rd.at 0 rfl) w hw)) (hT.at hw); rw [← hml] at q; exact q : Calls prog 66 #[.int .i64 ((k + 1 : Nat) : Int), .slice O ((zat f ls.length h ls left right k).length) d] w (Post w [] fun v L => ∃ O d, v = .tuple #[.slice O ((f + ls.length - 1) / 2 ^ (k + 1) + 1 - f / 2 ^ (k + 1)) d, .nilIface] ∧ L = [OwnA 49 32 O ((f + ls.length - 1) / 2 ^ (k + 1) + 1 - f / 2 ^ (k + 1)) d (hcs ((List.finRange ((f + ls.length - 1) / 2 ^ (k + 1) + 1 - f / 2 ^ (k + 1))).map (fun i : Fin ((f + ls.length - 1) / 2 ^ (k + 1) + 1 - f / 2 ^ (k + 1)) => zbr (k + 1) (zaK f ls.length h ls left right k) i.val)))]))) ?_
    rintro v L' ⟨O3, d3, rfl, rfl⟩
    have hnx : (List.finRange ((f + ls.length - 1) / 2 ^ (k + 1) + 1 - f / 2 ^ (k + 1))).map (fun i : Fin ((f + ls.length - 1) / 2 ^ (k + 1) + 1 - f / 2 ^ (k + 1)) => zbr (k + 1) (zaK f ls.length h ls left right k) i.val) = (zat f ls.length h ls left right (k + 1)) := ctx.next (show k < h from h63) rfl
    have hnl : ((f + ls.length - 1) / 2 ^ (k + 1) + 1 - f / 2 ^ (k + 1)) = (zat f ls.length h ls left right (k + 1)).length := by rw [zat, za8]
    refine gw ?_
    refine S.r (Qt.as (Qt.quo (b := 2) rfl rfl ow (by have := Nat.div_le_self f (2 ^ k); simp only [kmax]; omega)) (by rw [zay])) (gw ?_)
    refine S.r (Qt.as (Qt.quo (b := 2) rfl rfl ow (by have := Nat.div_le_self (f + ls.length - 1) (2 ^ k); simp only [kmax]; omega)) (by rw [zay])) (gw ?_)
    refine ⟨(k + 1, (O3, d3), (A1, c1), (A2, c2)), ?_, ?_, ⟨?_, (List.forall_mem_cons.2 ⟨rfl, (List.forall_mem_cons.2 ⟨(by show Value.slice O3 ((f + ls.length - 1) / 2 ^ (k + 1) + 1 - f / 2 ^ (k + 1)) d3 = Value.slice O3 (zat f ls.length h ls left right (k + 1)).length d3; rw [← hnl]), (List.forall_mem_cons.2 ⟨rfl, (List.forall_mem_cons.2 ⟨rfl, (List.forall_mem_cons.2 ⟨(by show Value.slice A1 (left.drop (zaq f k).length).length c1 = Value.slice A1 (left.drop (zaq f (k + 1)).length).length c1; rw [zcp (show ¬ f / 2 ^ k % 2 = 1 from h67)]), (List.forall_mem_cons.2 ⟨(by show Value.slice A2 (right.drop (zan (f + ls.length - 1) k).length).length c2 = Value.slice A2 (right.drop (zan (f + ls.length - 1) (k + 1)).length).length c2; rw [zcq (show ¬ (f + ls.length - 1) / 2 ^ k % 2 = 0 from h78)]), (fun _ h => nomatch h)⟩)⟩)⟩)⟩)⟩)⟩)⟩, (by dsimp only; rw [hnx, hnl]; exact Sub.trans (sk (sk (sk (sd sn0)))) (sk (Sub.trans (sk (Sub.trans (sk sr) (Sub.of_perm pm1))) (Sub.of_perm pm1))))⟩
    ·exact ⟨by show _ ≤ _; dsimp only; omega, by rw [zcp (show ¬ f / 2 ^ k % 2 = 1 from h67)]; exact le1, by rw [zcq (show ¬ (f + ls.length - 1) / 2 ^ k % 2 = 0 from h78)]; exact le2⟩
    ·show _ < _; dsimp only; omega
    exact outs
 ·refine TC.exit (TC.seq ?_)
  have hke : k = h := by omega
  refine gw ?_
  refine S.r (Qt.index (i := 0) uT cT rfl rfl (hpos) (Has.own hz0) (by show 0 * 32 < (hcs (zat f ls.length h ls left right k)).length; rw [zah]; omega)) ?_
  refine S.r (Qt.as (Qt.load rfl (Ld.hashS (l := (zat f ls.length h ls left right k)) (Has.own hz0) 0 rT ce49 hpos rfl)) (by rw [hke, ctx.last])) ?_
  refine S.opN rfl (OpV.storeV1 (v := hv ((refN ((zaq f h).zip left) ((zan (f + ls.length - 1) h).zip right) ls f h 0))) rfl rfl (zab ce49) (zai _) (zaf _) ?_)
  refine gw ?_
  refine TC.ret ?_
  refine finQ.ret (RVs.cell rfl (Ld.all hz1 rT (zab ce49)) rv) sn ?_
  exact ⟨rfl, rfl⟩
theorem zj8 {z : Int} {f : Nat} (hf64 : f < 18446744073709551616) {n : Nat} (g : z < 0 ∨ 32 < z ∨ ∃ h : Nat, z = (h : Int) ∧ h ≤ 32 ∧ ¬ (1 ≤ n ∧ n ≤ 256 ∧ f + n ≤ 2 ^ h)) (w : World) : Calls prog 104 #[.int .i64 z, .int .u64 (f : Int), .int .i64 (n : Int)] w (Ret w (.bool false)) := by
 rcases g with g | g | ⟨h, rfl, hh, g⟩
 ·exact zh5 z (.inl g) f n w
 ·exact zh5 z (.inr g) f n w
 ·by_cases h1 : 1 ≤ n ∧ n ≤ 256
  ·have k := zgV h f n hh hf64 h1.1 h1.2 w
   rw [decide_eq_false (fun e => g ⟨h1.1, h1.2, e⟩)] at k; exact k
  ·exact zme h f n ow hh w
theorem ziO (z : Int) (f : Nat) (hf64 : f < 18446744073709551616) (A : OAd) (c : Nat) (ls : List H32) (Bl : OAd) (cl : Nat) (left : List H32) (Br : OAd) (cr : Nat) (right : List H32) (hcl : left.length ≤ cl) (hcr : right.length ≤ cr) (w0 : World) (hR : Ro w0 [] (SlA A (hcs ls))) (hl : Ro w0 [] (SlA Bl (hcs left))) (hr : Ro w0 [] (SlA Br (hcs right))) (hT : Tabs 3 1 w0 []) : Calls prog 19 #[.int .i64 z, .int .u64 (f : Int), .slice A ls.length c, .agg #[.slice Bl left.length cl, .slice Br right.length cr]] w0 (Ret w0 (.tuple #[hv (zbM z f ls left right).1, errv 73 (zbM z f ls left right).2])) := by
 by_cases hz : z < 0 ∨ 32 < z
 ·rw [zbM, if_pos hz]; exact Calls.ret (zha z f A c ls Bl cl left Br cr right (fun w => zj8 hf64 ow w) w0)
 ·obtain ⟨h, rfl⟩ : ∃ n : Nat, z = (n : Int) := ⟨z.toNat, by omega⟩
  have hh : h ≤ 32 := by omega
  rw [zg1 hh]
  by_cases g : 1 ≤ ls.length ∧ ls.length ≤ 256 ∧ f + ls.length ≤ 2 ^ h
  ·by_cases g2 : (zaq f h).length = left.length ∧ (zan (f + ls.length - 1) h).length = right.length
   ·rw [zle g g2]; exact Calls.ret (zlk h f hh hf64 A c ls Bl cl left Br cr right g.1 g.2.1 g.2.2 g2.1 g2.2 hcl hcr w0 hR hl hr hT)
   ·rw [zps g g2]; exact Calls.ret (zlj h f hh hf64 A c ls Bl cl left Br cr right g.1 g.2.1 g.2.2 g2 w0)
  ·rw [zpr g]; exact Calls.ret (zha h f A c ls Bl cl left Br cr right (fun w => zj8 hf64 (.inr (.inr ⟨h, rfl, hh, g⟩)) w) w0)
theorem znn (root : H32) (z : Int) (f : Nat) (hf64 : f < 18446744073709551616) (A : OAd) (c : Nat) (ls : List H32) (Bl : OAd) (cl : Nat) (left : List H32) (Br : OAd) (cr : Nat) (right : List H32) (hcl : left.length ≤ cl) (hcr : right.length ≤ cr) (h0 : (zbM z f ls left right).2 = 0) (w0 : World) (hR : Ro w0 [] (SlA A (hcs ls))) (hl : Ro w0 [] (SlA Bl (hcs left))) (hr : Ro w0 [] (SlA Br (hcs right))) (hT : Tabs 3 1 w0 []) :
  Calls prog 106 #[hv root, .int .i64 z, .int .u64 (f : Int), .slice A ls.length c, .agg #[.slice Bl left.length cl, .slice Br right.length cr]] w0 (Post w0 [] fun v L => v = errv 73 (if (zbM z f ls left right).1 ≠ root then 5 else 0) ∧ L = []) := by
 refine co 30 [.tmp 10] func106 ?_
 refine gw ?_
 intro b5
 refine gw ?_
 intro b9
 refine gw ?_
 refine S.r (Qt.load rfl (Ld.all hz0 rT (ce43))) ?_
 refine S.c0 J19 (fun w hw => (by have h := ziO z f hf64 A c ls Bl cl left Br cr right hcl hcr w (Rd.ro hR w hw) (Rd.ro hl w hw) (Rd.ro hr w hw) (hT.at hw); rw [h0] at h; exact h : Calls prog 19 #[.int .i64 z, .int .u64 (f : Int), .slice A ls.length c, .agg #[.slice Bl left.length cl, .slice Br right.length cr]] w (Ret w (.tuple #[hv (zbM z f ls left right).1, .nilIface])))) (gw ?_)
 intro b11
 refine S.opN rfl (OpV.storeV0 (v := hv (_)) rfl rfl (zab ce49) (zai _) (zaf _) ?_)
 refine gw ?_
 refine S.dec rfl rfl (Qt.neH (a := (zbM z f ls left right).1) (b := root) guard49 uT uT cT rfl rfl) (fun h28 => gw ?_) (fun h28 => gw ?_)
 ·refine TC.ret (fR ?_)
  exact ⟨by rw [if_pos h28]; rfl, rfl⟩
 ·refine TC.ret (fR ?_)
  exact ⟨by rw [if_neg h28]; rfl, rfl⟩
theorem zno (root : H32) (z : Int) (f : Nat) (hf64 : f < 18446744073709551616) (A : OAd) (c : Nat) (ls : List H32) (Bl : OAd) (cl : Nat) (left : List H32) (Br : OAd) (cr : Nat) (right : List H32) (hcl : left.length ≤ cl) (hcr : right.length ≤ cr) (k : Nat) (h0 : (zbM z f ls left right).2 = k) (hk : k ≠ 0) (w0 : World) (hR : Ro w0 [] (SlA A (hcs ls))) (hl : Ro w0 [] (SlA Bl (hcs left))) (hr : Ro w0 [] (SlA Br (hcs right))) (hT : Tabs 3 1 w0 []) :
  Calls prog 106 #[hv root, .int .i64 z, .int .u64 (f : Int), .slice A ls.length c, .agg #[.slice Bl left.length cl, .slice Br right.length cr]] w0 (Post w0 [] fun v L => v = .iface 73 (.int .i64 (k : Int)) ∧ L = []) := by
 refine co 30 [.tmp 10] func106 ?_
 refine gw ?_
 intro b5
 refine gw ?_
 intro b9
 refine gw ?_
 refine S.r (Qt.load rfl (Ld.all hz0 rT (ce43))) ?_
 refine S.c0 J19 (fun w hw => (by have h := ziO z f hf64 A c ls Bl cl left Br cr right hcl hcr w (Rd.ro hR w hw) (Rd.ro hl w hw) (Rd.ro hr w hw) (hT.at hw); rw [h0, zdd hk] at h; exact h : Calls prog 19 #[.int .i64 z, .int .u64 (f : Int), .slice A ls.length c, .agg #[.slice Bl left.length cl, .slice Br right.length cr]] w (Ret w (.tuple #[hv (zbM z f ls left right).1, .iface 73 (.int .i64 (k : Int))])))) (gw ?_)
 intro b11
 refine S.opN rfl (OpV.storeV0 (v := hv (_)) rfl rfl (zab ce49) (zai _) (zaf _) ?_)
 refine gw ?_
 refine TC.ret (fR ?_)
 exact ⟨rfl, rfl⟩
theorem zr1 (root : H32) (z : Int) (f : Nat) (hf64 : f < 18446744073709551616) (A : OAd) (c : Nat) (ls : List H32) (Bl : OAd) (cl : Nat) (left : List H32) (Br : OAd) (cr : Nat) (right : List H32) (hcl : left.length ≤ cl) (hcr : right.length ≤ cr) (w0 : World) (hR : Ro w0 [] (SlA A (hcs ls))) (hl : Ro w0 [] (SlA Bl (hcs left))) (hr : Ro w0 [] (SlA Br (hcs right))) (hT : Tabs 3 1 w0 []) : Calls prog 106 #[hv root, .int .i64 z, .int .u64 (f : Int), .slice A ls.length c, .agg #[.slice Bl left.length cl, .slice Br right.length cr]] w0 (Ret w0 (errv 73 (chkS root z f ls left right))) := by
 by_cases h : (zbM z f ls left right).2 = 0
 ·rw [chkS, if_neg (fun k => k h)]
  exact Calls.ret (znn root z f hf64 A c ls Bl cl left Br cr right hcl hcr h w0 hR hl hr hT)
 ·rw [chkS, if_pos h, zdd h]
  exact Calls.ret (zno root z f hf64 A c ls Bl cl left Br cr right hcl hcr _ rfl h w0 hR hl hr hT)
end Go.Proofs.YtgdjcmehlhebdaaGreatDoor
