/- Walks: sealed blocks and leaves as bytes -/
import Derived.Test.YtgdjcmehlhebdaaGreatDoorY9
set_option maxHeartbeats 25600000
namespace Go.Proofs.YtgdjcmehlhebdaaGreatDoor
open _root_.Go.Proofs.Tryz
open Go.E
set_option maxRecDepth 4000
theorem J119 : zae prog 119 := ⟨_, func119, by kernel_rfl, rfl⟩
theorem J179 : zae prog 179 := ⟨_, func179, by kernel_rfl, rfl⟩
theorem J202 : zae prog 202 := ⟨_, func202, by kernel_rfl, rfl⟩
theorem zm8 (x : Sealed) (w0 : World) :
  Calls prog 54 #[.agg (zaD x).toArray] w0 (Post w0 [] fun v L => v = .agg (zaD x).toArray ∧ L = []) := by
 refine co 4 [.cell 2 91] func54 ?_
 refine gw ?_
 intro b1
 refine gw ?_
 intro b2
 refine gw ?_
 refine S.r (Qt.load rfl (Ld.all (vs := zaD x) hz1 rT (by rw [zam]; exact ce136))) ?_
 refine S.opN rfl (OpV.storeV0 (v := .agg (zaD x).toArray) rfl rfl (by rw [zav, zam]; exact ce91) (zdW _) (by rw [zav, zam]; rfl) ?_)
 refine gw ?_
 refine TC.ret ?_
 refine finQ.ret (RVs.cell rfl (Ld.all hz0 rT ((by rw [zav, zam]; exact ce91))) RVs.nil) sn ?_
 exact ⟨rfl, rfl⟩
theorem zsJ (x : Sealed) (w0 : World) : Calls prog 54 #[.agg (zaD x).toArray] w0 (Ret w0 (.agg (zaD x).toArray)) := Calls.ret (zm8 x w0)
theorem zjQ (wb : Nat) (u : Value) (w0 : World) (hL : Sat w0 [Blk wb 297 [.nilIface, u]]) :
  Calls prog 202 #[.pointer (some ⟨wb, 0, none⟩), .iface 73 (.int .i64 1)] w0 (Post w0 (fps [Blk wb 297 [.nilIface, u]]) fun v L => L = [Blk wb 297 [.iface 73 (.int .i64 1), u]]) := by
 refine cof (L := [Blk wb 297 [.nilIface, u]]) 13 [] func202 hL ?_
 refine gw ?_
 refine S.opN rfl (OpV.storeC0 rfl cw cT rfl rfl (Nat.le_of_ble_eq_true rfl) ?_)
 refine gw ?_
 refine finQ.normal RVs.nil sr ?_
 exact rfl
theorem zpa (wb : Nat) (A : OAd) (c : Nat) (bs : List UInt8) (n : Nat) (hn : 4294967296 ≤ n) (hn64 : n < 18446744073709551616) (w0 : World) (hL : Sat w0 [Blk wb 297 [.nilIface, .slice A (bs).length c], OwnA 5 1 A (bs).length c (zad (bs))]) :
  Calls prog 177 #[.pointer (some ⟨wb, 0, none⟩), .int .u64 (n : Int), .int .i64 ((4 : Nat) : Int)] w0 (Post w0 (fps [Blk wb 297 [.nilIface, .slice A (bs).length c], OwnA 5 1 A (bs).length c (zad (bs))]) fun v L => v = .pointer (some ⟨wb, 0, none⟩) ∧ L = [Blk wb 297 [.iface 73 (.int .i64 1), .slice A (bs).length c], OwnA 5 1 A (bs).length c (zad (bs))]) := by
 refine cof (L := [Blk wb 297 [.nilIface, .slice A (bs).length c], OwnA 5 1 A (bs).length c (zad (bs))]) 51 [.tmp 6] func177 hL ?_
 refine gw ?_
 refine S.c0 J201 (fun w hw => zob 4 (.inr (.inr (.inl rfl))) w) (gw ?_)
 refine S.qg rfl rfl rfl (Qt.dT (Qt.lt (b := 8) rfl rfl) (by decide)) (gw ?_)
 refine S.qg rfl rfl rfl (Qt.mul (a := 8) rfl rfl km) ?_
 refine S.qg rfl rfl rfl (Qt.shrN (s := 32) rfl rfl km) ?_
 refine S.qg rfl rfl rfl (Qt.dT (Qt.ne (b := 0) rfl rfl) (by have : 1 ≤ n / 4294967296 := (Nat.le_div_iff_mul_le (by decide)).2 ow; show n / 2 ^ 32 ≠ 0; have e : (2 : Nat) ^ 32 = 4294967296 := rfl; rw [e]; omega)) (gw ?_)
 refine S.o (OpV.con (Pre := [Blk wb 297 [.nilIface, .slice A bs.length c]]) (R := _) J202 rfl pr (fun w hw => zjQ wb (.slice A bs.length c) w hw.sat.left) ?_)
 rintro v L' rfl
 refine gw ?_
 exact TC.ret (fin1 sr ⟨rfl, rfl⟩)
theorem zpb (u : Value) (wb : Nat) (A : OAd) (c : Nat) (bs : List UInt8) (B : OAd) (d : Nat) (ns : List UInt8) (hb : bs.length ≤ 70368744177664) (hn : ns.length ≤ 70368744177664) (w0 : World) (hL : Sat w0 [Blk wb 297 [u, .slice A (bs).length c], OwnA 5 1 A (bs).length c (zad (bs))]) (hR : Ro w0 (fps [Blk wb 297 [u, .slice A (bs).length c], OwnA 5 1 A (bs).length c (zad (bs))]) (SlA B (zad ns))) :
  Calls prog 178 #[.pointer (some ⟨wb, 0, none⟩), .slice B ns.length d] w0 (Post w0 (fps [Blk wb 297 [u, .slice A (bs).length c], OwnA 5 1 A (bs).length c (zad (bs))]) fun v L => ∃ O d, v = .pointer (some ⟨wb, 0, none⟩) ∧ L = [Blk wb 297 [u, .slice O ((bs ++ ns)).length d], OwnA 5 1 O ((bs ++ ns)).length d (zad ((bs ++ ns)))]) := by
 refine cof (L := [Blk wb 297 [u, .slice A (bs).length c], OwnA 5 1 A (bs).length c (zad (bs))]) 17 [.tmp 4] func178 hL ?_
 refine gw ?_
 refine S.o (OpV.app1 (bytes := 1) (news := zad ns) uT elem5 rfl rfl (Has.ro hR) (by rw [zal]; omega) (zaw _) (by simp only [maxLen]; omega) ow (fun O2 d2 => ?_))
 refine gw ?_
 refine S.opN rfl (OpV.storeC0 rfl cw cT rfl rfl (Nat.le_of_ble_eq_true rfl) ?_)
 refine gw ?_
 refine TC.ret (fin1 sr ?_)
 exact ⟨O2, d2, rfl, by rw [List.length_append, za1]; rfl⟩
theorem zm9 (wb : Nat) (u : Value) (w0 : World) (hW : Ro w0 [] (Blk wb 297 [.iface 73 (.int .i64 1), u])) :
  Calls prog 180 #[.pointer (some ⟨wb, 0, none⟩)] w0 (Post w0 [] fun v L => v = .tuple #[.slice none 0 0, .iface 73 (.int .i64 1)] ∧ L = []) := by
 refine co 25 [.tmp 2, .tmp 3] func180 ?_
 refine gw ?_
 refine dr ([], []) (gw ?_)
 refine D.fi ?_
 refine TC.ret (fR ?_)
 exact ⟨rfl, rfl⟩
theorem zgR (x : Sealed) (w0 : World) :
  Calls prog 179 #[.agg (zaD x).toArray] w0 (Post w0 [] fun v L => ∃ O d, v = .slice O (putS x).length d ∧ L = [OwnA 5 1 O (putS x).length d (zad (putS x))]) := by
 refine co 25 [.tmp 2] func179 ?_
 refine TC.ownNil 5 1 (gw ?_)
 intro b1
 refine gw ?_
 refine S.r (Qt.build (v := .agg #[.nilIface, .slice none 0 0]) rfl (fun _ => by kernel_rfl)) (gw ?_)
 intro b7
 refine gw ?_
 refine S.draw ([3, 6, 9], [10]) mixed (sd (sk (sd sn0))) (gw ?_)
 refine D.p 5 rfl (Qt.as (v' := .slice (some ⟨b1, 1, none⟩) x.data.1.length 32) (Qt.sliceB_all uT cT rfl) (by rw [x.data.2]; rfl)) (gw ?_)
 refine D.p 8 rfl (Qt.as (v' := .slice (some ⟨b1, 33, none⟩) x.tag.1.length 16) (Qt.sliceB_all uT cT rfl) (by rw [x.tag.2]; rfl)) ?_
 refine D.oS 3 rfl (OpV.con (Pre := [Blk b7 297 [.nilIface, .slice none (([] : List UInt8)).length 0], OwnA 5 1 none (([] : List UInt8)).length 0 (zad (([] : List UInt8)))]) (R := _) J177 rfl (pc pm1) (fun w hw => zd6 b7 none 0 [] x.ep 8 (.inr (.inr (.inr rfl))) (show _ < 2 ^ 64 from x.lt) x.lt (by decide) w hw.sat.left) ?_)
 rintro v L' ⟨O1, d1, rfl, rfl⟩
 refine sbk ?_
 refine D.oS 6 rfl (OpV.con (Pre := [Blk b7 297 [.nilIface, .slice O1 ((([] : List UInt8) ++ numB x.ep 8)).length d1], OwnA 5 1 O1 ((([] : List UInt8) ++ numB x.ep 8)).length d1 (zad ((([] : List UInt8) ++ numB x.ep 8)))]) (R := _) J178 rfl pr (fun w hw => zfU b7 O1 d1 _ (some ⟨b1, 1, none⟩) 32 x.data.1 (by simp [zaC, x.data.2, x.tag.2]) (by rw [x.data.2]; decide) w hw.sat.left (Ro.sealD (Ro.of_rest (A := Blk b1 136 (zaD x)) hw (List.mem_cons_self ..)))) ?_)
 rintro v L' ⟨O2, d2, rfl, rfl⟩
 refine sbk ?_
 refine D.oS 9 rfl (OpV.con (Pre := [Blk b7 297 [.nilIface, .slice O2 (((([] : List UInt8) ++ numB x.ep 8) ++ x.data.1)).length d2], OwnA 5 1 O2 (((([] : List UInt8) ++ numB x.ep 8) ++ x.data.1)).length d2 (zad (((([] : List UInt8) ++ numB x.ep 8) ++ x.data.1)))]) (R := _) J178 rfl pr (fun w hw => zfU b7 O2 d2 _ (some ⟨b1, 33, none⟩) 16 x.tag.1 (by simp [zaC, x.data.2, x.tag.2]) (by rw [x.tag.2]; decide) w hw.sat.left (Ro.sealT (Ro.of_rest (A := Blk b1 136 (zaD x)) hw (List.mem_cons_self ..)))) ?_)
 rintro v L' ⟨O3, d3, rfl, rfl⟩
 refine sbk ?_
 refine D.nZ 10 rfl J180 (fun w hw => zgq b7 O3 d3 _ (by simp [zaC, x.data.2, x.tag.2]) w (Rd.at 0 rfl w hw) (Rd.own (Rd.at 1 rfl) w hw)) ?_
 rintro v L' ⟨O4, d4, rfl, rfl⟩
 refine gw ?_
 refine D.fi (gw ?_)
 refine TC.ret (fin1 (sk sn) ?_)
 have e : (((([] : List UInt8) ++ numB x.ep 8) ++ x.data.1) ++ x.tag.1) = putS x := by rw [List.nil_append]; rfl
 rw [e]
 exact ⟨O4, d4, rfl, rfl⟩
theorem zfF (i : Nat) (hi : i < 4294967296) (x : Sealed) (w0 : World) :
  Calls prog 119 #[.int .u64 (i : Int), .agg (zaD x).toArray] w0 (Post w0 [] fun v L => ∃ O d, v = .tuple #[.slice O (zcN i x).length d, .nilIface] ∧ L = [OwnA 5 1 O (zcN i x).length d (zad (zcN i x))]) := by
 refine co 19 [.tmp 4, .tmp 5] func119 ?_
 refine TC.ownNil 5 1 (gw ?_)
 intro b3
 refine gw ?_
 refine S.r (Qt.build (v := .agg #[.nilIface, .slice none 0 0]) rfl (fun _ => by kernel_rfl)) (gw ?_)
 intro b8
 refine gw ?_
 refine S.draw ([1, 3, 6], [5, 7]) mixed (sd (sk (sd sn0))) (gw ?_)
 refine D.p 4 rfl (Qt.load rfl (Ld.all (vs := zaD x) hz0 rT (by rw [zam]; exact ce136))) ?_
 refine D.oS 1 rfl (OpV.con (Pre := [Blk b8 297 [.nilIface, .slice none (([] : List UInt8)).length 0], OwnA 5 1 none (([] : List UInt8)).length 0 (zad (([] : List UInt8)))]) (R := _) J177 rfl (pc pm1) (fun w hw => zd6 b8 none 0 [] 1 1 (.inl rfl) (by decide) (by decide) (by decide) w hw.sat.left) ?_)
 rintro v L' ⟨O1, d1, rfl, rfl⟩
 refine sbk ?_
 refine D.oS 3 rfl (OpV.con (Pre := [Blk b8 297 [.nilIface, .slice O1 ((([] : List UInt8) ++ numB 1 1)).length d1], OwnA 5 1 O1 ((([] : List UInt8) ++ numB 1 1)).length d1 (zad ((([] : List UInt8) ++ numB 1 1)))]) (R := _) J177 rfl pr (fun w hw => zd6 b8 O1 d1 _ i 4 (.inr (.inr (.inl rfl))) (show i < 2 ^ 32 from hi) ow (by simp [zaC, zbX]) w hw.sat.left) ?_)
 rintro v L' ⟨O2, d2, rfl, rfl⟩
 refine sbk ?_
 refine D.nZ 5 rfl J179 (fun w hw => zgR x w) ?_
 rintro v L' ⟨Op, dp, rfl, rfl⟩
 refine D.oS 6 rfl (OpV.con (Pre := [Blk b8 297 [.nilIface, .slice O2 (((([] : List UInt8) ++ numB 1 1) ++ numB i 4)).length d2], OwnA 5 1 O2 (((([] : List UInt8) ++ numB 1 1) ++ numB i 4)).length d2 (zad (((([] : List UInt8) ++ numB 1 1) ++ numB i 4)))]) (R := _) J178 rfl (pm1.trans (pc pm1)) (fun w hw => zfU b8 O2 d2 _ Op dp (putS x) (by simp [zaC, zbX]) (by rw [zbX]; decide) w hw.sat.left (Ro.own (Ro.of_rest (A := OwnA 5 1 Op (putS x).length dp (zad (putS x))) hw (List.mem_cons_self ..)))) ?_)
 rintro v L' ⟨O3, d3, rfl, rfl⟩
 refine sbk ?_
 refine D.nZ 7 rfl J180 (fun w hw => zgq b8 O3 d3 _ (by simp [zaC, zbX]) w (Rd.at 0 rfl w hw) (Rd.own (Rd.at 1 rfl) w hw)) ?_
 rintro v L' ⟨O4, d4, rfl, rfl⟩
 refine gw ?_
 refine D.fi ?_
 refine TC.ret (finQ.ret rv (sk (sd (sd (sd (sd sn0))))) ?_)
 have e : (((([] : List UInt8) ++ numB 1 1) ++ numB i 4) ++ putS x) = zcN i x := by rw [List.nil_append]; rfl
 rw [e]
 exact ⟨O4, d4, rfl, rfl⟩
theorem ziF (i : Nat) (hi : 4294967296 ≤ i) (hi64 : i < 18446744073709551616) (x : Sealed) (w0 : World) :
  Calls prog 119 #[.int .u64 (i : Int), .agg (zaD x).toArray] w0 (Post w0 [] fun v L => v = .tuple #[.slice none 0 0, .iface 73 (.int .i64 1)] ∧ L = []) := by
 refine co 19 [.tmp 4, .tmp 5] func119 ?_
 refine TC.ownNil 5 1 (gw ?_)
 intro b3
 refine gw ?_
 refine S.r (Qt.build (v := .agg #[.nilIface, .slice none 0 0]) rfl (fun _ => by kernel_rfl)) (gw ?_)
 intro b8
 refine gw ?_
 refine S.draw ([1, 3, 6], [5]) mixed (sd (sk (sd sn0))) (gw ?_)
 refine D.p 4 rfl (Qt.load rfl (Ld.all (vs := zaD x) hz0 rT (by rw [zam]; exact ce136))) ?_
 refine D.oS 1 rfl (OpV.con (Pre := [Blk b8 297 [.nilIface, .slice none (([] : List UInt8)).length 0], OwnA 5 1 none (([] : List UInt8)).length 0 (zad (([] : List UInt8)))]) (R := _) J177 rfl (pc pm1) (fun w hw => zd6 b8 none 0 [] 1 1 (.inl rfl) (by decide) (by decide) (by decide) w hw.sat.left) ?_)
 rintro v L' ⟨O1, d1, rfl, rfl⟩
 refine sbk ?_
 refine D.oS 3 rfl (OpV.con (Pre := [Blk b8 297 [.nilIface, .slice O1 ((([] : List UInt8) ++ numB 1 1)).length d1], OwnA 5 1 O1 ((([] : List UInt8) ++ numB 1 1)).length d1 (zad ((([] : List UInt8) ++ numB 1 1)))]) (R := _) J177 rfl pr (fun w hw => zpa b8 O1 d1 _ i hi hi64 w hw.sat.left) ?_)
 rintro v L' ⟨rfl, rfl⟩
 refine sbk ?_
 refine D.nZ 5 rfl J179 (fun w hw => zgR x w) ?_
 rintro v L' ⟨Op, dp, rfl, rfl⟩
 refine D.oS 6 rfl (OpV.con (Pre := [Blk b8 297 [.iface 73 (.int .i64 1), .slice O1 ((([] : List UInt8) ++ numB 1 1)).length d1], OwnA 5 1 O1 ((([] : List UInt8) ++ numB 1 1)).length d1 (zad ((([] : List UInt8) ++ numB 1 1)))]) (R := _) J178 rfl (pm1.trans (pc pm1)) (fun w hw => zpb (.iface 73 (.int .i64 1)) b8 O1 d1 _ Op dp (putS x) (by simp [zaC, zbX]) (by rw [zbX]; decide) w hw.sat.left (Ro.own (Ro.of_rest (A := OwnA 5 1 Op (putS x).length dp (zad (putS x))) hw (List.mem_cons_self ..)))) ?_)
 rintro v L' ⟨O3, d3, rfl, rfl⟩
 refine sbk ?_
 refine D.c0 7 rfl J180 (fun w hw => Calls.ret (zm9 b8 _ w (Rd.at 0 rfl w hw))) (gw ?_)
 refine D.fi ?_
 refine TC.ret (fR ?_)
 exact ⟨rfl, rfl⟩
theorem zjR (w0 : World) :
  Calls prog 118 #[.slice none 0 0, .iface 73 (.int .i64 1)] w0 (Post w0 [] fun v L => v = .tuple #[hv zac, .iface 73 (.int .i64 1)] ∧ L = []) := by
 refine co 12 [.cell 4 49, .tmp 5] func118 ?_
 refine gw ?_
 intro b4
 refine gw ?_
 refine S.r (Qt.build (v := hv zac) rfl (fun _ => by kernel_rfl)) (gw ?_)
 refine S.opN rfl (OpV.storeV0 (v := hv (zac)) rfl rfl (zab ce49) (zai _) (zaf _) ?_)
 refine gw ?_
 refine TC.ret ?_
 refine finQ.ret (RVs.cell rfl (Ld.all hz0 rT (zab ce49)) rv) sn ?_
 exact ⟨rfl, rfl⟩
theorem zgS (i : Nat) (hi : i < 4294967296) (x : Sealed) (w0 : World) (hT : Tabs 3 1 w0 []) :
  Calls prog 56 #[.int .u64 (i : Int), .agg (zaD x).toArray] w0 (Post w0 [] fun v L => v = .tuple #[hv (shaH (zcN i x)), .nilIface] ∧ L = []) := by
 refine co 14 [.cell 4 49, .tmp 5] func56 ?_
 refine gw ?_
 intro b3
 refine gw ?_
 intro b4
 refine gw ?_
 refine S.r (Qt.load rfl (Ld.all (vs := zaD x) hz1 rT (by rw [zam]; exact ce136))) ?_
 refine S.cn J119 (fun w hw => zfF i hi x w) ?_
 rintro v L' ⟨O, d, rfl, rfl⟩
 refine gw ?_
 refine S.c0 J118 (fun w hw => Calls.ret (zgr O d (zcN i x) w (Rd.own (Rd.at 0 rfl) w hw) (by rw [zcW]; decide) (hT.at hw))) (gw ?_)
 refine S.opN rfl (OpV.storeV1 (v := hv (_)) rfl rfl (zab ce49) (zai _) (zaf _) ?_)
 refine gw ?_
 refine TC.ret ?_
 refine finQ.ret (RVs.cell rfl (Ld.all hz1 rT (zab ce49)) rv) sn ?_
 exact ⟨rfl, rfl⟩
theorem zjS (i : Nat) (hi : 4294967296 ≤ i) (hi64 : i < 18446744073709551616) (x : Sealed) (w0 : World) :
  Calls prog 56 #[.int .u64 (i : Int), .agg (zaD x).toArray] w0 (Post w0 [] fun v L => v = .tuple #[hv zac, .iface 73 (.int .i64 1)] ∧ L = []) := by
 refine co 14 [.cell 4 49, .tmp 5] func56 ?_
 refine gw ?_
 intro b3
 refine gw ?_
 intro b4
 refine gw ?_
 refine S.r (Qt.load rfl (Ld.all (vs := zaD x) hz1 rT (by rw [zam]; exact ce136))) ?_
 refine S.c0 J119 (fun w hw => Calls.ret (ziF i hi hi64 x w)) (gw ?_)
 refine S.c0 J118 (fun w hw => Calls.ret (zjR w)) (gw ?_)
 refine S.opN rfl (OpV.storeV0 (v := hv (_)) rfl rfl (zab ce49) (zai _) (zaf _) ?_)
 refine gw ?_
 refine TC.ret ?_
 refine finQ.ret (RVs.cell rfl (Ld.all hz0 rT (zab ce49)) rv) sn ?_
 exact ⟨rfl, rfl⟩
theorem J46 : zae prog 46 := ⟨_, func46, by kernel_rfl, rfl⟩
theorem J47 : zae prog 47 := ⟨_, func47, by kernel_rfl, rfl⟩
theorem J48 : zae prog 48 := ⟨_, func48, by kernel_rfl, rfl⟩
theorem J112 : zae prog 112 := ⟨_, func112, by kernel_rfl, rfl⟩
theorem zv5 : zeJ prog 5 = some (.int .u8 0) := by kernel_rfl
theorem elem93 : zcn prog 93 50 64 := zcv (by kernel_rfl)
theorem zsK (n s : Nat) (hs : s = 4 ∨ s = 8) (hn : n < 18446744073709551616) (w0 : World) :
    Calls prog 174 #[.int .u64 (n : Int), .int .i64 (s : Int)] w0 (Post w0 [] fun v L => ∃ g, v = .slice (some ⟨g, 0, none⟩) s s ∧ L = [OwnA 5 1 (some ⟨g, 0, none⟩) s s (zad (numB n s))]) := by
  refine Calls.of (L := []) (n := 24) (rs := [.tmp 4]) func174 rfl rfl rfl (Nat.le_of_ble_eq_true rfl) (Sat.nil _) ?_
  refine TC.seq ?_
  refine TC.region ?_
  refine S.as ?_
  refine S.nil ?_
  refine TC.seq ?_
  refine TC.region ?_
  refine S.mv ?_
  refine S.o (OpV.makeS (n := s) (cs := List.replicate s (.int .u8 0)) uT elem5 zv5 rfl rfl ow ow ow (by rcases hs with rfl | rfl <;> kernel_rfl) (fun g8 => ?_))
  refine S.as ?_
  refine S.nil ?_
  refine TC.seq ?_
  refine TC.seq ?_
  refine TC.region ?_
  refine S.mv ?_
  refine S.r (Qt.subi rfl rfl (IntWalk.i64_in _ ow)) ?_
  refine S.as ?_
  refine S.nil ?_
  refine TC.block ?_
  refine TC.loop (γ := Nat) [11, 12, 15, 16, 17, 18, 19, 20, 21, 22, 0, 13, 14, 6] (fun k => [(6, .int .i64 ((s : Int) - 1 - (k : Int))), (0, .int .u64 ((n / 2 ^ (8 * k) : Nat) : Int))]) (fun k => [Blk g8 5 (digL n s k)]) (fun k => k ≤ s) (fun k => s - k) (0)
    (Nat.zero_le _) ⟨Out.refl _ _, (List.forall_mem_cons.2 ⟨(by show Value.int .i64 ((s : Int) - 1) = Value.int .i64 ((s : Int) - 1 - ((0 : Nat) : Int)); congr 1; omega), (List.forall_mem_cons.2 ⟨(by show Value.int .u64 (n : Int) = Value.int .u64 ((n / 2 ^ (8 * 0) : Nat) : Int); rw [Nat.mul_zero, Nat.pow_zero, Nat.div_one]), (fun _ h => nomatch h)⟩)⟩)⟩ ((by rw [zo1]; exact sr)) ?_
  rintro k u hk
  refine TC.seq ?_
  refine TC.seq ?_
  refine TC.region ?_
  refine S.mv ?_
  refine S.dec rfl rfl (Qt.gei rfl rfl) (fun h12 => ?_) (fun h12 => ?_)
  · refine S.nil ?_
    refine S.if_t rfl ?_
    refine TC.skip ?_
    refine TC.seq ?_
    refine TC.block ?_
    refine TC.seq ?_
    refine TC.region ?_
    refine S.mv ?_
    refine S.r (Qt.as (Qt.move rfl) (congrArg (Value.int .i64) (show ((s : Int) - 1 - (k : Int)) = ((s - 1 - k : Nat) : Int) by omega))) ?_
    refine S.mv ?_
    refine S.r (Qt.rem (b := 256) rfl rfl ow) ?_
    refine S.r (Qt.toByte uT uT rfl) ?_
    refine S.r (Qt.index1 uT cT rfl rfl ow (Has.blk hz0) (by rw [zf3 _ _ _ ow]; omega)) ?_
    refine S.opN rfl (OpV.storeE0 rfl cw cT rfl rfl (by rw [zf3 _ _ _ ow]; omega) (zrb ow _ (ztk _)) ?_)
    refine S.nil ?_
    refine TC.region ?_
    refine S.mv ?_
    refine S.r (Qt.as (Qt.quo (b := 256) rfl rfl ow (by have := Nat.div_le_self n (2 ^ (8 * k)); simp only [kmax]; omega)) (by rw [zrc])) ?_
    refine S.as ?_
    refine S.nil ?_
    refine TC.region ?_
    refine S.mv ?_
    refine S.r (Qt.subi rfl rfl (IntWalk.i64_in _ ow)) ?_
    refine S.as ?_
    refine S.nil ?_
    refine ⟨k + 1, ?_, ?_, ⟨?_, (List.forall_mem_cons.2 ⟨(by show Value.int .i64 ((s : Int) - 1 - (k : Int) - 1) = Value.int .i64 ((s : Int) - 1 - ((k + 1 : Nat) : Int)); congr 1; omega), (List.forall_mem_cons.2 ⟨rfl, (fun _ h => nomatch h)⟩)⟩)⟩, sr⟩
    · show _ ≤ _; omega
    · show _ < _; dsimp only; omega
    repeat (first | exact Out.refl _ _ | refine Out.put rfl ?_ | refine Out.puts rfl ?_ | refine Out.scr ?_ | refine Out.scr' rfl ?_)
  · refine S.nil ?_
    refine S.if_f rfl ?_
    refine TC.exit ?_
    refine TC.seq ?_
    refine TC.region ?_
    refine TL.shutOwn (n := s) (c := s) (sz := 1) (by rw [zf3 _ _ _ ow]; omega) (Nat.le_refl _) (by simp only [maxLen]; omega) pr ?_
    rw [List.take_of_length_le (by rw [zf3 _ _ _ ow]; omega), show k = s by omega, zra]
    refine S.mv ?_
    refine S.as ?_
    refine S.nil ?_
    refine TC.ret (finQ.ret rv sr ?_)
    exact ⟨g8, rfl, rfl⟩
theorem ziG (i : Nat) (hi : i < 4294967296) (x : Go.E.Item) (w0 : World) :
  Calls prog 112 #[.int .u64 (i : Int), .agg (zaT x).toArray] w0 (Post w0 [] fun v L => ∃ O d, v = .tuple #[.slice O (zb2 i x).length d, .nilIface] ∧ L = [OwnA 5 1 O (zb2 i x).length d (zad (zb2 i x))]) := by
 refine co 16 [.tmp 4, .tmp 5] func112 ?_
 refine gw ?_
 intro b3
 refine gw ?_
 refine S.r (Qt.not rfl) (gw ?_)
 refine TC.ifb rfl (fun b8 => ?_) (fun b8 => ?_)
 ·refine gw ?_
  refine S.o (OpV.sliceLO (vs := zad [0]) uT elem5 rfl (by decide) rfl (by intro v hv; rw [List.mem_singleton.1 hv]; rfl) (fun g9 => ?_))
  refine gw ?_
  refine TC.ret (finQ.ret rv (sk (sd sn0)) ?_)
  have ht : x.there = false := by simpa using b8
  have e : zb2 i x = [0] := by rw [zb2, if_neg (by rw [ht]; decide)]
  rw [e]
  exact ⟨some ⟨g9, 0, none⟩, 1, rfl, rfl⟩
 ·refine gw ?_
  refine S.r (Qt.load rfl (Ld.row (vs := zaD x.s) hz0 rT (by rw [zam]; exact ce136) (zc9 x))) ?_
  refine S.cn J119 (fun w hw => zfF i hi x.s w) ?_
  rintro v L' ⟨O, d, rfl, rfl⟩
  refine gw ?_
  refine TC.ret (finQ.ret rv (sk (sd sn0)) ?_)
  have ht : x.there = true := by simpa using b8
  have e : zb2 i x = zcN i x.s := by rw [zb2, if_pos ht]
  rw [e]
  exact ⟨O, d, rfl, rfl⟩
theorem zdr (A : OAd) (c : Nat) (xs : List Nat) (B : OAd) (b : Nat) (l : List Go.E.Item) (hn : xs.length ≤ 16384) (w0 : World) (hlow : ∀ x ∈ xs, x < 18446744073709551616) (hR : Ro w0 [] (SlA A (u64s xs))) (hB : Ro w0 [] (SlA B (l.flatMap zaT))) :
  Calls prog 47 #[.slice A xs.length c, .slice B l.length b] w0 (Post w0 [] fun v L => TxQ (zbA xs l) v L) := by
 refine co 45 [.tmp 4, .tmp 5] func47 ?_
 refine gw ?_
 refine S.dec rfl rfl (Qt.ne rfl rfl) (fun h15 => gw ?_) (fun h15 => gw ?_)
 ·refine TC.ret (fR ?_)
  rw [zo3 (fun h => h15 h.1)]
  exact ⟨2, rfl, rfl⟩
 ·refine TC.ownNil 112 1 ?_
  refine TC.manyNil ?_
  refine TC.loop (γ := Nat × OAd × List Tx × Nat) [20, 21, 22, 23, 7, 8, 24, 25, 26, 4, 5, 28, 29, 30, 31, 32, 33, 27, 34, 35, 9, 10, 36, 37, 38, 39, 40, 41, 42, 6, 43, 19] (fun g => [(19, .int .i64 ((g.1 : Nat) : Int)), (6, .slice g.2.1 g.2.2.1.length g.2.2.2)]) (fun g => [OwnA 112 1 g.2.1 (g.2.2.1).length g.2.2.2 ((g.2.2.1).flatMap txL), Many ((g.2.2.1).map zaN)]) (fun g => g.1 ≤ xs.length ∧ g.2.2.1.map (fun t => t.2.2) = (List.range g.1).map (fun i => zb2 (xs.getD i 0) (l.getD i zaU)) ∧ ∀ j, j < g.1 → xs.getD j 0 < 4294967296) (fun g => xs.length - g.1) ((0, none, [], 0))
   ⟨Nat.zero_le _, rfl, fun j h => absurd h (Nat.not_lt_zero _)⟩ ⟨Out.refl _ _, ag⟩ (Sub.trans (sk sr) (Sub.of_perm pm1)) ?_
  rintro ⟨k, O, tt, d⟩ u ⟨hk, htt, hq⟩
  dsimp only at hk htt hq
  have htl : tt.length = k := by have := congrArg List.length htt; simpa using this
  show TC _ _ _ (puts [(19, .int .i64 (k : Int)), (6, .slice O tt.length d)] (scr _ u _)) [OwnA 112 1 O (tt).length d ((tt).flatMap txL), Many ((tt).map zaN)]
  refine gw ?_
  refine S.dec rfl rfl (Qt.lt rfl rfl) (fun h20 => gw ?_) (fun h20 => gw ?_)
  ·refine S.r (Qt.index uT cT rfl rfl ow (Has.ro hR) (by rw [zbi]; omega)) ?_
   refine S.r (Qt.load rfl (Ld.sl (v := .int .u64 (((xs.getD k 0) : Nat) : Int)) (Has.ro hR) oT (zbO ow))) (gw ?_)
   refine S.dec rfl rfl (Qt.ge (b := 4294967296) rfl rfl) (fun h25 => gw ?_) (fun h25 => gw ?_)
   ·refine TC.ret (fR ?_)
    rw [zo3 (fun h => absurd (h.2 _ (zbk 0 (show k < xs.length by omega))) ow)]
    exact ⟨1, rfl, rfl⟩
   ·refine S.r (Qt.index uT cT rfl rfl ow (Has.ro hB) (by rw [zcl]; omega)) ?_
    refine S.r (Qt.load rfl (Ld.slr (vs := zaT (l.getD k zaU)) (Has.ro hB) rT (by rw [zax]; exact ce138) (by rw [zax]; decide) (zec ow rfl))) ?_
    refine S.cn J112 (fun w hw => ziG (xs.getD k 0) ow (l.getD k zaU) w) ?_
    rintro v L' ⟨Ot, dt, rfl, rfl⟩
    refine TL.manyJoin (pc pm1) (gw ?_)
    refine S.o (OpV.slice1 (bytes := 24) (v := .slice Ot (zb2 (xs.getD k 0) (l.getD k zaU)).length dt) uT elem112 (by decide) rfl rfl (fun g41 => ?_))
    refine S.o (OpV.app2 (bytes := 24) (news := [.slice Ot (zb2 (xs.getD k 0) (l.getD k zaU)).length dt]) uT elem112 rfl rfl (Has.blk (cs := [.slice Ot (zb2 (xs.getD k 0) (l.getD k zaU)).length dt]) hz0) rfl (by intro u hu; rw [List.mem_singleton.1 hu]; rfl) (by simp only [maxLen]; omega) ow (fun O3 d3 => ?_))
    refine gw ?_
    refine ⟨(k + 1, O3, tt ++ [(Ot, dt, zb2 (xs.getD k 0) (l.getD k zaU))], d3), ?_, ?_, ⟨?_, (List.forall_mem_cons.2 ⟨rfl, (List.forall_mem_cons.2 ⟨(by show Value.slice O3 (tt.length + 1) d3 = Value.slice O3 (tt ++ [_]).length d3; rw [List.length_append]; rfl), (fun _ h => nomatch h)⟩)⟩)⟩, (by dsimp only; simp only [List.length_append, List.flatMap_append, List.map_append]; exact Sub.trans (sk (sk (sd sn0))) (Sub.trans (sk (Sub.trans (sk sr) (Sub.of_perm pm1))) (Sub.of_perm pm2)))⟩
    ·exact ⟨by show _ ≤ _; dsimp only; omega, by dsimp only; rw [List.map_append, htt, List.range_succ, List.map_append, List.map_singleton, List.map_singleton], fun j hj => (Nat.lt_or_ge j k).elim (hq j) (fun h => by (obtain rfl : j = k := by omega); exact Nat.lt_of_not_le h25)⟩
    ·show _ < _; dsimp only; omega
    exact outs
  ·refine TC.exit (TC.seq (gw ?_))
   refine TC.ret (finQ.ret rv sr ?_)
   obtain rfl : k = xs.length := by omega
   rw [zgP (Decidable.not_not.1 h15) (zsG rfl hq)]
   exact ⟨O, d, tt, rfl, rfl, htt, by omega⟩
theorem zhW (A : OAd) (n c : Nat) (B : OAd) (m d : Nat) (w0 : World) :
  Calls prog 48 #[.bool true, .slice A n c, .slice B m d] w0 (Post w0 [] fun v L => v = .slice A n c ∧ L = []) := by
 refine co 10 [.tmp 6] func48 ?_
 refine gw ?_
 refine TC.ret (fR ?_)
 exact ⟨rfl, rfl⟩
theorem zgT (A : OAd) (n c : Nat) (B : OAd) (m d : Nat) (w0 : World) :
  Calls prog 48 #[.bool false, .slice A n c, .slice B m d] w0 (Post w0 [] fun v L => v = .slice B m d ∧ L = []) := by
 refine co 10 [.tmp 6] func48 ?_
 refine gw ?_
 refine TC.ret (fR ?_)
 exact ⟨rfl, rfl⟩
theorem zpc (q1 q2 q3 : Nat) (A : OAd) (n c : Nat) (B1 : OAd) (n1 a1 : Nat) (B2 : OAd) (n2 a2 : Nat) (w0 : World) (h1 : Ro w0 [] (Blk q1 22 [.slice A n c])) (h2 : Ro w0 [] (Blk q2 23 [.slice B1 n1 a1])) (h3 : Ro w0 [] (Blk q3 23 [.slice B2 n2 a2])) (hX : ∀ w, St w0 [] [] w → Calls prog 47 #[.slice A n c, .slice B1 n1 a1] w (Post w [] (TxQ none))) :
  Calls prog 46 #[.bool true, .pointer (some ⟨q1, 0, none⟩), .pointer (some ⟨q2, 0, none⟩), .pointer (some ⟨q3, 0, none⟩)] w0 (Post w0 [] fun v L => TxQ none v L) := by
 refine co 15 [.tmp 5, .tmp 6] func46 ?_
 refine gw ?_
 refine dr ([], [5]) (gw ?_)
 refine D.c0 4 rfl J48 (fun w hw => Calls.ret (zhW B1 n1 a1 B2 n2 a2 w)) ?_
 refine D.nZ 5 rfl J47 (fun w hw => hX w (hw.sub sn)) ?_
 rintro v L' ⟨k1, rfl, rfl⟩
 refine gw ?_
 refine D.fi ?_
 refine TC.ret (fR ?_)
 exact ⟨k1, rfl, rfl⟩
theorem zpd (q1 q2 q3 : Nat) (A : OAd) (n c : Nat) (B1 : OAd) (n1 a1 : Nat) (B2 : OAd) (n2 a2 : Nat) (a : List (List UInt8)) (w0 : World) (h1 : Ro w0 [] (Blk q1 22 [.slice A n c])) (h2 : Ro w0 [] (Blk q2 23 [.slice B1 n1 a1])) (h3 : Ro w0 [] (Blk q3 23 [.slice B2 n2 a2])) (hX : ∀ w, St w0 [] [] w → Calls prog 47 #[.slice A n c, .slice B1 n1 a1] w (Post w [] (TxQ (some a)))) :
  Calls prog 46 #[.bool true, .pointer (some ⟨q1, 0, none⟩), .pointer (some ⟨q2, 0, none⟩), .pointer (some ⟨q3, 0, none⟩)] w0 (Post w0 [] fun v L => TxQ (some a) v L) := by
 refine co 15 [.tmp 5, .tmp 6] func46 ?_
 refine gw ?_
 refine dr ([], [5]) (gw ?_)
 refine D.c0 4 rfl J48 (fun w hw => Calls.ret (zhW B1 n1 a1 B2 n2 a2 w)) ?_
 refine D.nZ 5 rfl J47 (fun w hw => hX w (hw.sub sn)) ?_
 rintro v L' ⟨O1, d1, t1, rfl, rfl, e1, l1⟩
 refine gw ?_
 refine D.fi ?_
 refine TC.ret (finQ.ret rv sr ?_)
 exact ⟨O1, d1, t1, rfl, rfl, e1, l1⟩
theorem zpe (q1 q2 q3 : Nat) (A : OAd) (n c : Nat) (B1 : OAd) (n1 a1 : Nat) (B2 : OAd) (n2 a2 : Nat) (X : Option (List (List UInt8))) (w0 : World) (h1 : Ro w0 [] (Blk q1 22 [.slice A n c])) (h2 : Ro w0 [] (Blk q2 23 [.slice B1 n1 a1])) (h3 : Ro w0 [] (Blk q3 23 [.slice B2 n2 a2])) (hX : ∀ w, St w0 [] [] w → Calls prog 47 #[.slice A n c, .slice B1 n1 a1] w (Post w [] (TxQ X))) :
  Calls prog 46 #[.bool true, .pointer (some ⟨q1, 0, none⟩), .pointer (some ⟨q2, 0, none⟩), .pointer (some ⟨q3, 0, none⟩)] w0 (Post w0 [] (TxQ X)) := by
 cases X with
 | none => exact zpc q1 q2 q3 A n c B1 n1 a1 B2 n2 a2 w0 h1 h2 h3 hX
 | some a => exact zpd q1 q2 q3 A n c B1 n1 a1 B2 n2 a2 a w0 h1 h2 h3 hX
theorem zk5 (b3 b4 b5 : Nat) (A : OAd) (c : Nat) (xs : List Nat) (hn : xs.length ≤ 16384) (B1 : OAd) (a1 : Nat) (l1 : List Go.E.Item) (B2 : OAd) (a2 : Nat) (l2 : List Go.E.Item) (w0 : World) (hlow : ∀ x ∈ xs, x < 18446744073709551616) (hR : Ro w0 [] (SlA A (u64s xs))) (hB1 : Ro w0 [] (SlA B1 (l1.flatMap zaT))) (hB2 : Ro w0 [] (SlA B2 (l2.flatMap zaT))) (h3 : Ro w0 [] (Blk b3 22 [.slice A xs.length c])) (h4 : Ro w0 [] (Blk b4 23 [.slice B1 l1.length a1])) (h5 : Ro w0 [] (Blk b5 23 [.slice B2 l2.length a2])) :
  ∀ w, St w0 [] [] w → Calls prog 46 ((([.bool true] : List Value) ++ (#[.pointer (some ⟨b3, 0, none⟩), .pointer (some ⟨b4, 0, none⟩), .pointer (some ⟨b5, 0, none⟩)] : Array Value).toList).toArray) w (Post w [] (TxQ (zbA xs l1))) := fun w s =>
 zpe b3 b4 b5 A xs.length c B1 l1.length a1 B2 l2.length a2 (zbA xs l1) w (h3.go s (fun b hb => by cases hb)) (h4.go s (fun b hb => by cases hb)) (h5.go s (fun b hb => by cases hb)) (fun w2 s2 => zdr A c xs B1 a1 l1 hn w2 hlow ((hR.go s (fun b hb => by cases hb)).go s2 (fun b hb => by cases hb)) ((hB1.go s (fun b hb => by cases hb)).go s2 (fun b hb => by cases hb)))
theorem zna (q1 q2 q3 : Nat) (A : OAd) (n c : Nat) (B1 : OAd) (n1 a1 : Nat) (B2 : OAd) (n2 a2 : Nat) (w0 : World) (h1 : Ro w0 [] (Blk q1 22 [.slice A n c])) (h2 : Ro w0 [] (Blk q2 23 [.slice B1 n1 a1])) (h3 : Ro w0 [] (Blk q3 23 [.slice B2 n2 a2])) (hX : ∀ w, St w0 [] [] w → Calls prog 47 #[.slice A n c, .slice B2 n2 a2] w (Post w [] (TxQ none))) :
  Calls prog 46 #[.bool false, .pointer (some ⟨q1, 0, none⟩), .pointer (some ⟨q2, 0, none⟩), .pointer (some ⟨q3, 0, none⟩)] w0 (Post w0 [] fun v L => TxQ none v L) := by
 refine co 15 [.tmp 5, .tmp 6] func46 ?_
 refine gw ?_
 refine dr ([], [5]) (gw ?_)
 refine D.c0 4 rfl J48 (fun w hw => Calls.ret (zgT B1 n1 a1 B2 n2 a2 w)) ?_
 refine D.nZ 5 rfl J47 (fun w hw => hX w (hw.sub sn)) ?_
 rintro v L' ⟨k1, rfl, rfl⟩
 refine gw ?_
 refine D.fi ?_
 refine TC.ret (fR ?_)
 exact ⟨k1, rfl, rfl⟩
theorem znb (q1 q2 q3 : Nat) (A : OAd) (n c : Nat) (B1 : OAd) (n1 a1 : Nat) (B2 : OAd) (n2 a2 : Nat) (a : List (List UInt8)) (w0 : World) (h1 : Ro w0 [] (Blk q1 22 [.slice A n c])) (h2 : Ro w0 [] (Blk q2 23 [.slice B1 n1 a1])) (h3 : Ro w0 [] (Blk q3 23 [.slice B2 n2 a2])) (hX : ∀ w, St w0 [] [] w → Calls prog 47 #[.slice A n c, .slice B2 n2 a2] w (Post w [] (TxQ (some a)))) :
  Calls prog 46 #[.bool false, .pointer (some ⟨q1, 0, none⟩), .pointer (some ⟨q2, 0, none⟩), .pointer (some ⟨q3, 0, none⟩)] w0 (Post w0 [] fun v L => TxQ (some a) v L) := by
 refine co 15 [.tmp 5, .tmp 6] func46 ?_
 refine gw ?_
 refine dr ([], [5]) (gw ?_)
 refine D.c0 4 rfl J48 (fun w hw => Calls.ret (zgT B1 n1 a1 B2 n2 a2 w)) ?_
 refine D.nZ 5 rfl J47 (fun w hw => hX w (hw.sub sn)) ?_
 rintro v L' ⟨O1, d1, t1, rfl, rfl, e1, l1⟩
 refine gw ?_
 refine D.fi ?_
 refine TC.ret (finQ.ret rv sr ?_)
 exact ⟨O1, d1, t1, rfl, rfl, e1, l1⟩
theorem znc (q1 q2 q3 : Nat) (A : OAd) (n c : Nat) (B1 : OAd) (n1 a1 : Nat) (B2 : OAd) (n2 a2 : Nat) (X : Option (List (List UInt8))) (w0 : World) (h1 : Ro w0 [] (Blk q1 22 [.slice A n c])) (h2 : Ro w0 [] (Blk q2 23 [.slice B1 n1 a1])) (h3 : Ro w0 [] (Blk q3 23 [.slice B2 n2 a2])) (hX : ∀ w, St w0 [] [] w → Calls prog 47 #[.slice A n c, .slice B2 n2 a2] w (Post w [] (TxQ X))) :
  Calls prog 46 #[.bool false, .pointer (some ⟨q1, 0, none⟩), .pointer (some ⟨q2, 0, none⟩), .pointer (some ⟨q3, 0, none⟩)] w0 (Post w0 [] (TxQ X)) := by
 cases X with
 | none => exact zna q1 q2 q3 A n c B1 n1 a1 B2 n2 a2 w0 h1 h2 h3 hX
 | some a => exact znb q1 q2 q3 A n c B1 n1 a1 B2 n2 a2 a w0 h1 h2 h3 hX
theorem zjT (b3 b4 b5 : Nat) (A : OAd) (c : Nat) (xs : List Nat) (hn : xs.length ≤ 16384) (B1 : OAd) (a1 : Nat) (l1 : List Go.E.Item) (B2 : OAd) (a2 : Nat) (l2 : List Go.E.Item) (w0 : World) (hlow : ∀ x ∈ xs, x < 18446744073709551616) (hR : Ro w0 [] (SlA A (u64s xs))) (hB1 : Ro w0 [] (SlA B1 (l1.flatMap zaT))) (hB2 : Ro w0 [] (SlA B2 (l2.flatMap zaT))) (h3 : Ro w0 [] (Blk b3 22 [.slice A xs.length c])) (h4 : Ro w0 [] (Blk b4 23 [.slice B1 l1.length a1])) (h5 : Ro w0 [] (Blk b5 23 [.slice B2 l2.length a2])) :
  ∀ w, St w0 [] [] w → Calls prog 46 ((([.bool false] : List Value) ++ (#[.pointer (some ⟨b3, 0, none⟩), .pointer (some ⟨b4, 0, none⟩), .pointer (some ⟨b5, 0, none⟩)] : Array Value).toList).toArray) w (Post w [] (TxQ (zbA xs l2))) := fun w s =>
 znc b3 b4 b5 A xs.length c B1 l1.length a1 B2 l2.length a2 (zbA xs l2) w (h3.go s (fun b hb => by cases hb)) (h4.go s (fun b hb => by cases hb)) (h5.go s (fun b hb => by cases hb)) (fun w2 s2 => zdr A c xs B2 a2 l2 hn w2 hlow ((hR.go s (fun b hb => by cases hb)).go s2 (fun b hb => by cases hb)) ((hB2.go s (fun b hb => by cases hb)).go s2 (fun b hb => by cases hb)))
theorem zey (A : OAd) (c : Nat) (xs : List Nat) (hn : xs.length ≤ 16384) (B1 : OAd) (a1 : Nat) (l1 : List Go.E.Item) (B2 : OAd) (a2 : Nat) (l2 : List Go.E.Item) (w0 : World) (hlow : ∀ x ∈ xs, x < 18446744073709551616) (hR : Ro w0 [] (SlA A (u64s xs))) (hB1 : Ro w0 [] (SlA B1 (l1.flatMap zaT))) (hB2 : Ro w0 [] (SlA B2 (l2.flatMap zaT))) :
  Calls prog 9 #[.slice A xs.length c, .slice B1 l1.length a1, .slice B2 l2.length a2] w0 (Post w0 [] fun v L => PxQ 114 (zbl (zbA xs l1) (zbA xs l2)) v L) := by
 refine co 9 [.tmp 6] func9 ?_
 refine gw ?_
 intro b3
 refine gw ?_
 intro b4
 refine gw ?_
 intro b5
 refine gw ?_
 refine S.r (Qt.makeFuncL (fs := []) (cs := [.pointer (some ⟨b3, 0, none⟩), .pointer (some ⟨b4, 0, none⟩), .pointer (some ⟨b5, 0, none⟩)]) rfl rfl) ?_
 refine S.cn J45 (fun w hw => zlY 46 #[.pointer (some ⟨b3, 0, none⟩), .pointer (some ⟨b4, 0, none⟩), .pointer (some ⟨b5, 0, none⟩)] J46 (zbA xs l1) (zbA xs l2) w (zk5 b3 b4 b5 A c xs hn B1 a1 l1 B2 a2 l2 w hlow (Rd.ro hR w hw) (Rd.ro hB1 w hw) (Rd.ro hB2 w hw) (Rd.at 2 rfl w hw) (Rd.at 1 rfl w hw) (Rd.at 0 rfl w hw)) (zjT b3 b4 b5 A c xs hn B1 a1 l1 B2 a2 l2 w hlow (Rd.ro hR w hw) (Rd.ro hB1 w hw) (Rd.ro hB2 w hw) (Rd.at 2 rfl w hw) (Rd.at 1 rfl w hw) (Rd.at 0 rfl w hw))) ?_
 rintro v L' ⟨O, d, pp, Ls, rfl, rfl, q1, q2, q3⟩
 refine gw ?_
 refine TC.ret (fin1 (sk (sk (sd (sd (sd sn0))))) ?_)
 exact ⟨O, d, pp, Ls, rfl, rfl, q1, q2, q3⟩
theorem J54 : zae prog 54 := ⟨_, func54, by kernel_rfl, rfl⟩
theorem J56 : zae prog 56 := ⟨_, func56, by kernel_rfl, rfl⟩
theorem seal136 : zsE prog 136 := ⟨_, _, _, _, underlying136, by kernel_rfl, ⟨by decide, by decide, by decide⟩, ⟨rfl, rfl, rfl⟩, underlying40, underlying89, underlying59, underlying5, cells5, ⟨by kernel_rfl, by kernel_rfl⟩, by kernel_rfl, by kernel_rfl⟩
theorem zsL (B : OAd) (b : Nat) (l : List Go.E.Item) (hn : l.length ≤ 65536) (w0 : World) (hB : Ro w0 [] (SlA B (l.flatMap zaT))) :
  Calls prog 12 #[.slice B l.length b] w0 (Post w0 [] fun v L => ∃ O d, v = .slice O l.length d ∧ L = [OwnA 93 50 O l.length d (l.flatMap zaT)]) := by
 refine co 23 [.tmp 2] func12 ?_
 refine gw ?_
 refine TC.ownNil 93 50 ?_
 refine TC.loop (γ := Nat × OAd × Nat) [9, 10, 11, 5, 12, 13, 14, 15, 16, 17, 18, 19, 20, 3, 21, 8] (fun g => [(8, .int .i64 ((g.1 : Nat) : Int)), (3, .slice g.2.1 g.1 g.2.2)]) (fun g => [OwnA 93 50 g.2.1 g.1 g.2.2 ((l.take g.1).flatMap zaT)]) (fun g => g.1 ≤ l.length) (fun g => l.length - g.1) ((0, none, 0))
  (Nat.zero_le _) ⟨Out.refl _ _, ag⟩ sr ?_
 rintro ⟨k, O, d⟩ u hk
 dsimp only at hk
 show TC _ _ _ (puts [(8, .int .i64 (k : Int)), (3, .slice O k d)] (scr _ u _)) [OwnA 93 50 O k d ((l.take k).flatMap zaT)]
 refine gw ?_
 refine S.dec rfl rfl (Qt.lt rfl rfl) (fun h9 => gw ?_) (fun h9 => gw ?_)
 ·refine S.r (Qt.index uT cT rfl rfl ow (Has.ro hB) (by rw [zcl]; omega)) ?_
  refine S.r (Qt.load rfl (Ld.slr (vs := zaT (l.getD k zaU)) (Has.ro hB) rT (by rw [zax]; exact ce138) (by rw [zax]; decide) (zec ow rfl))) (gw ?_)
  intro b5
  refine S.opN rfl (OpV.storeV0 (v := .agg (zaT (l.getD k zaU)).toArray) rfl rfl (by rw [zav, zax]; exact ce138) (zdX _) (by rw [zav, zax]; rfl) ?_)
  refine gw ?_
  refine S.draw ([8], [7]) mixed (sk (sd sn0)) (gw ?_)
  refine D.qY 4 rfl (Qt.load rfl (Ld.row (vs := zaD (l.getD k zaU).s) hz0 rT (by rw [zam]; exact ce136) (zc9 _))) ?_
  refine D.c0 5 rfl J54 (fun w hw => zsJ (l.getD k zaU).s w) ?_
  refine D.qY 6 rfl (Qt.as (Qt.buildS (vs := [.bool (l.getD k zaU).there, .agg (zaD (l.getD k zaU).s).toArray]) (pls := #[(0, 1), (1, 49)]) uT (fun w => by kernel_rfl) ze93 rfl ⟨rfl, (by show some (1, 49) = some (1, (zaD (l.getD k zaU).s).length); rw [zam]), trivial⟩ (by rw [ze0, zax]; rfl)) (by rw [ze0])) ?_
  refine D.nN 7 rfl (OpV.slice1 (bytes := 64) (v := .agg (zaT (l.getD k zaU)).toArray) uT elem93 (by decide) rfl (by rw [zav, zax]) (fun g19 => (sbk ?_)))
  refine D.oS 8 rfl (OpV.app2 (bytes := 64) (news := zaT (l.getD k zaU)) uT elem93 rfl rfl (Has.blk (cs := zaT (l.getD k zaU)) hz0) (by rw [zax]) (List.all_eq_true.1 (zdX _)) (by simp only [maxLen]; omega) ow (fun O3 d3 => (sbk ?_)))
  refine gw ?_
  refine D.fi (gw ?_)
  refine ⟨(k + 1, O3, d3), ?_, ?_, ⟨?_, ag⟩, (by dsimp only; rw [zo5 ow]; exact Sub.trans (sk (sd (sd sn0))) (Sub.trans (sk sr) (Sub.of_perm pm2)))⟩
  ·show _ ≤ _; dsimp only; omega
  ·show _ < _; dsimp only; omega
  exact outs
 ·refine TC.exit (TC.seq (gw ?_))
  refine TC.ret (fin1 sr ?_)
  obtain rfl : k = l.length := by omega
  rw [List.take_length]
  exact ⟨O, d, rfl, rfl⟩
theorem zfG (A : OAd) (c : Nat) (a : List Go.E.Item) (hn : a.length ≤ 65536) (B : OAd) (d : Nat) (b : List Go.E.Item) (w0 : World) (hA : Ro w0 [] (SlA A (a.flatMap zaT))) (hB : Ro w0 [] (SlA B (b.flatMap zaT))) :
    Calls prog 15 #[.slice A a.length c, .slice B b.length d] w0 (Post w0 [] fun v L => ∃ r : Bool, v = .bool r ∧ L = [] ∧ (r = true ↔ zfE a b)) := by
  refine Calls.of (L := []) (n := 42) (rs := [.tmp 4]) func15 rfl rfl rfl (Nat.le_of_ble_eq_true rfl) (Sat.nil _) ?_
  refine TC.seq ?_
  refine TC.region ?_
  refine S.as ?_
  refine S.nil ?_
  refine TC.seq ?_
  refine TC.seq ?_
  refine TC.region ?_
  refine S.mv ?_
  refine S.r (Qt.len_slice uT rfl) ?_
  refine S.mv ?_
  refine S.r (Qt.len_slice uT rfl) ?_
  refine S.dec rfl rfl (Qt.ne rfl rfl) (fun h11 => ?_) (fun h11 => ?_)
  · refine S.nil ?_
    refine S.if_t rfl ?_
    refine TC.seq ?_
    refine TC.region ?_
    refine S.as ?_
    refine S.nil ?_
    refine TC.ret (fR ?_)
    exact ⟨false, rfl, rfl, (fun h => by cases h), fun h => absurd h.1 h11⟩
  · refine S.nil ?_
    refine S.if_f rfl ?_
    refine TC.skip ?_
    refine TC.seq ?_
    refine TC.seq ?_
    refine TC.region ?_
    refine S.mv ?_
    refine S.r (Qt.len_slice uT rfl) ?_
    refine S.mv ?_
    refine S.nil ?_
    refine TC.block ?_
    refine TC.loop (γ := Nat) [15, 16, 17, 18, 6, 5, 19, 20, 21, 22, 23, 24, 25, 26, 27, 28, 29, 30, 31, 32, 33, 34, 35, 36, 37, 38, 39, 40, 4, 41, 14] (fun k => [(14, .int .i64 (k : Int))]) (fun k => []) (fun k => k ≤ a.length ∧ ∀ i, i < k → zl6 (a.getD i zaU) (b.getD i zaU)) (fun k => a.length - k) (0)
      ⟨Nat.zero_le _, fun i h => absurd h (Nat.not_lt_zero _)⟩ ⟨Out.refl _ _, (List.forall_mem_cons.2 ⟨rfl, (fun _ h => nomatch h)⟩)⟩ sn ?_
    rintro k u ⟨hk, hq⟩
    refine TC.seq ?_
    refine TC.region ?_
    refine S.dec rfl rfl (Qt.lt rfl rfl) (fun h15 => ?_) (fun h15 => ?_)
    · refine S.nil ?_
      refine TC.seq ?_
      refine S.if_t rfl ?_
      refine TC.skip ?_
      refine TC.seq ?_
      refine TC.block ?_
      refine TC.seq ?_
      refine TC.region ?_
      refine S.mv ?_
      refine S.r (Qt.index uT cT rfl rfl ow (Has.ro hA) (by rw [zcl]; omega)) ?_
      refine S.r (Qt.load rfl (Ld.slr (vs := zaT (a.getD k zaU)) (Has.ro hA) rT (by rw [zax]; exact ce138) (by rw [zax]; decide) (zec ow rfl))) ?_
      refine S.o (OpV.alloc zT (fun b6 => ?_))
      refine S.as ?_
      refine S.opN rfl (OpV.storeV0 (v := .agg (zaT (a.getD k zaU)).toArray) rfl rfl (by rw [zav, zax]; exact ce138) (zdX _) (by rw [zav, zax]; rfl) ?_)
      refine S.nil ?_
      refine TC.seq ?_
      refine dw ([], []) ?_
      refine D.qY 0 rfl (Qt.field uT rfl ce4 rfl) ?_
      refine D.qY 1 rfl (Qt.load rfl (Ld.one (v := .bool (a.getD k zaU).there) hz0 oT rfl)) ?_
      refine D.qY 2 rfl (Qt.move cw) ?_
      refine D.qY 3 rfl (Qt.move cw) ?_
      refine D.qY 4 rfl (Qt.index uT cT rfl rfl ow (Has.ro hB) (by rw [zcl]; omega)) ?_
      refine D.qY 5 rfl (Qt.fieldS uT rfl ce4 rfl (Has.ro hB) (by rw [zcl]; omega)) ?_
      refine D.qY 6 rfl (Qt.load rfl (Ld.sl (v := .bool (b.getD k zaU).there) (Has.ro hB) oT (zec ow rfl 0 _ rfl))) ?_
      refine D.decX (k := 7) rfl (by kernel_rfl) (by kernel_rfl) (by kernel_rfl) rfl rfl (Qt.as (Qt.neb (a := (a.getD k zaU).there) (b := (b.getD k zaU).there) uT rfl rfl) (congrArg Value.bool (zsH _ _))) (fun h26 => ?_) (fun h26 => ?_)
      · refine D.qY 8 rfl (Qt.move cw) ?_
        refine D.ps 9 rfl rfl ?_
        refine D.ps 10 rfl rfl ?_
        refine D.ps 11 rfl rfl ?_
        refine D.ps 12 rfl rfl ?_
        refine D.ps 13 rfl rfl ?_
        refine D.ps 14 rfl rfl ?_
        refine D.ps 15 rfl rfl ?_
        refine D.ps 16 rfl rfl ?_
        refine D.ps 17 rfl rfl ?_
        refine D.ps 18 rfl rfl ?_
        refine D.ps 19 rfl rfl ?_
        refine D.ps 20 rfl rfl ?_
        refine D.qY 21 rfl (Qt.pick_t rfl cw) ?_
        refine D.done sn (by kernel_rfl) ?_
        refine S.if_t rfl ?_
        refine TC.seq ?_
        refine TC.region ?_
        refine S.as ?_
        refine S.nil ?_
        refine TC.ret (fR ?_)
        exact ⟨false, rfl, rfl, (fun h => by cases h), fun h => absurd (h.2 k ow).1 h26⟩
      · refine D.qY 8 rfl (Qt.move cw) ?_
        refine D.gY 9 rfl rfl (Qt.field uT rfl ce4 rfl) ?_
        refine D.decgX (k := 10) rfl (by kernel_rfl) (by kernel_rfl) (by kernel_rfl) rfl rfl rfl (Qt.as (Qt.load rfl (Ld.one (v := .bool (a.getD k zaU).there) hz0 oT rfl)) (zo7 _)) (fun h29 => ?_) (fun h29 => ?_)
        · refine D.gY 11 rfl rfl (Qt.move cw) ?_
          refine D.gY 12 rfl rfl (Qt.field uT rfl ce136 rfl) ?_
          refine D.gY 13 rfl rfl (Qt.load rfl (Ld.row (vs := zaD (a.getD k zaU).s) hz0 rT (by rw [zam]; exact ce136) (zc9 _))) ?_
          refine D.gY 14 rfl rfl (Qt.move cw) ?_
          refine D.gY 15 rfl rfl (Qt.move cw) ?_
          refine D.gY 16 rfl rfl (Qt.index uT cT rfl rfl ow (Has.ro hB) (by rw [zcl]; omega)) ?_
          refine D.gY 17 rfl rfl (Qt.fieldS uT rfl ce136 rfl (Has.ro hB) (by rw [zcl]; omega)) ?_
          refine D.gY 18 rfl rfl (Qt.load rfl (Ld.slr (vs := zaD (b.getD k zaU).s) (Has.ro hB) rT (by rw [zam]; exact ce136) (by rw [zam]; decide) (zm5 ow rfl))) ?_
          refine D.decgX (k := 19) rfl (by kernel_rfl) (by kernel_rfl) (by kernel_rfl) rfl rfl rfl (Qt.neSeal (a := (a.getD k zaU).s) (b := (b.getD k zaU).s) (by kernel_rfl) seal136 rfl rfl) (fun h38 => ?_) (fun h38 => ?_)
          · refine D.gY 20 rfl rfl (Qt.pick_t rfl cw) ?_
            refine D.qY 21 rfl (Qt.pick_f rfl cw) ?_
            refine D.done sn (by kernel_rfl) ?_
            refine S.if_t rfl ?_
            refine TC.seq ?_
            refine TC.region ?_
            refine S.as ?_
            refine S.nil ?_
            refine TC.ret (fR ?_)
            exact ⟨false, rfl, rfl, (fun h => by cases h), fun h => absurd ((h.2 k ow).2 h29) h38⟩
          · refine D.gY 20 rfl rfl (Qt.pick_t rfl cw) ?_
            refine D.qY 21 rfl (Qt.pick_f rfl cw) ?_
            refine D.done sn (by kernel_rfl) ?_
            refine S.if_f rfl ?_
            refine TC.skip ?_
            refine TC.region ?_
            refine S.r (Qt.add (b := 1) rfl rfl km) ?_
            refine S.mv ?_
            refine S.nil ?_
            refine ⟨k + 1, ?_, ?_, ⟨?_, (List.forall_mem_cons.2 ⟨rfl, (fun _ h => nomatch h)⟩)⟩, sn⟩
            · exact ⟨by show _ ≤ _; omega, fun i hi => (Nat.lt_or_ge i k).elim (hq i) (fun h => by (obtain rfl : i = k := by omega); exact ⟨Decidable.not_not.1 h26, fun _ => Decidable.not_not.1 h38⟩)⟩
            · show _ < _; dsimp only; omega
            repeat (first | exact Out.refl _ _ | refine Out.put rfl ?_ | refine Out.puts rfl ?_ | refine Out.scr ?_ | refine Out.scr' rfl ?_)
        · refine D.gY 11 rfl rfl (Qt.move cw) ?_
          refine D.ps 12 rfl rfl ?_
          refine D.ps 13 rfl rfl ?_
          refine D.ps 14 rfl rfl ?_
          refine D.ps 15 rfl rfl ?_
          refine D.ps 16 rfl rfl ?_
          refine D.ps 17 rfl rfl ?_
          refine D.ps 18 rfl rfl ?_
          refine D.ps 19 rfl rfl ?_
          refine D.gY 20 rfl rfl (Qt.pick_f rfl cw) ?_
          refine D.qY 21 rfl (Qt.pick_f rfl cw) ?_
          refine D.done sn (by kernel_rfl) ?_
          refine S.if_f rfl ?_
          refine TC.skip ?_
          refine TC.region ?_
          refine S.r (Qt.add (b := 1) rfl rfl km) ?_
          refine S.mv ?_
          refine S.nil ?_
          refine ⟨k + 1, ?_, ?_, ⟨?_, (List.forall_mem_cons.2 ⟨rfl, (fun _ h => nomatch h)⟩)⟩, sn⟩
          · exact ⟨by show _ ≤ _; omega, fun i hi => (Nat.lt_or_ge i k).elim (hq i) (fun h => by (obtain rfl : i = k := by omega); exact ⟨Decidable.not_not.1 h26, fun h => absurd h h29⟩)⟩
          · show _ < _; dsimp only; omega
          repeat (first | exact Out.refl _ _ | refine Out.put rfl ?_ | refine Out.puts rfl ?_ | refine Out.scr ?_ | refine Out.scr' rfl ?_)
    · refine S.nil ?_
      refine TC.seq ?_
      refine S.if_f rfl ?_
      refine TC.exit ?_
      refine TC.seq ?_
      refine TC.region ?_
      refine S.as ?_
      refine S.nil ?_
      refine TC.ret (fR ?_)
      exact ⟨true, rfl, rfl, fun _ => ⟨Decidable.not_not.1 h11, fun i hi => hq i ow⟩, fun _ => rfl⟩
theorem zjU (A : OAd) (c : Nat) (a : List Go.E.Item) (hn : a.length ≤ 65536) (B : OAd) (d : Nat) (b : List Go.E.Item) (h : zfE a b) (w0 : World) (hA : Ro w0 [] (SlA A (a.flatMap zaT))) (hB : Ro w0 [] (SlA B (b.flatMap zaT))) : Calls prog 15 #[.slice A a.length c, .slice B b.length d] w0 (Ret w0 (.bool true)) :=
 Calls.ret ((zfG A c a hn B d b w0 hA hB).mono fun e w ⟨v, L, h1, h2, r, h3, h4, hr⟩ => ⟨v, L, h1, h2, by rw [h3, show r = true from (hr.2 h)], h4⟩)
theorem zjV (A : OAd) (c : Nat) (a : List Go.E.Item) (hn : a.length ≤ 65536) (B : OAd) (d : Nat) (b : List Go.E.Item) (h : ¬ zfE a b) (w0 : World) (hA : Ro w0 [] (SlA A (a.flatMap zaT))) (hB : Ro w0 [] (SlA B (b.flatMap zaT))) : Calls prog 15 #[.slice A a.length c, .slice B b.length d] w0 (Ret w0 (.bool false)) :=
 Calls.ret ((zfG A c a hn B d b w0 hA hB).mono fun e w ⟨v, L, h1, h2, r, h3, h4, hr⟩ => ⟨v, L, h1, h2, by rw [h3, show r = false from (Bool.eq_false_iff.2 (fun e => h (hr.1 e)))], h4⟩)
theorem zds (E : Nat → H32) (hEm : ∀ w, Tabs 3 1 w [] → Calls prog 55 #[] w (Ret w (.agg (hcs (zbd E)).toArray))) (hE0 : E 0 = shaH [0]) (A : OAd) (c : Nat) (xs : List Nat) (B : OAd) (b : Nat) (l : List Go.E.Item) (hle : l.length ≤ xs.length) (hn : l.length ≤ 65536) (w0 : World) (hlow : ∀ x ∈ xs, x < 18446744073709551616) (hR : Ro w0 [] (SlA A (u64s xs))) (hB : Ro w0 [] (SlA B (l.flatMap zaT))) (hT : Tabs 3 1 w0 []) :
  Calls prog 13 #[.slice A xs.length c, .slice B l.length b] w0 (Post w0 [] fun v L => (inR xs l l.length ∧ ∃ O d, v = .tuple #[.slice O l.length d, .bool (decide (xs.length = l.length))] ∧ L = [OwnA 49 32 O l.length d (hcs (za4 xs l l.length))]) ∨ (¬ inR xs l l.length ∧ v = .tuple #[.slice none 0 0, .bool false] ∧ L = [])) := by
 refine co 47 [.tmp 4, .tmp 5] func13 ?_
 refine gw ?_
 refine TC.ownNil 49 32 ?_
 refine TC.loop (γ := Nat × OAd × Nat) [15, 16, 17, 18, 8, 7, 19, 20, 9, 21, 22, 24, 25, 26, 27, 28, 29, 30, 23, 31, 32, 10, 11, 33, 34, 4, 5, 35, 36, 37, 38, 39, 6, 40, 14] (fun g => [(14, .int .i64 ((g.1 : Nat) : Int)), (6, .slice g.2.1 g.1 g.2.2)]) (fun g => [OwnA 49 32 g.2.1 g.1 g.2.2 (hcs (za4 xs l g.1))]) (fun g => g.1 ≤ l.length ∧ inR xs l g.1) (fun g => l.length - g.1) ((0, none, 0))
  ⟨Nat.zero_le _, fun i h => absurd h (Nat.not_lt_zero _)⟩ ⟨Out.refl _ _, ag⟩ sr ?_
 rintro ⟨k, O, d⟩ u ⟨hk, hq⟩
 dsimp only at hk hq
 show TC _ _ _ (puts [(14, .int .i64 (k : Int)), (6, .slice O k d)] (scr _ u _)) [OwnA 49 32 O k d (hcs (za4 xs l k))]
 refine gw ?_
 refine S.dec rfl rfl (Qt.lt rfl rfl) (fun h15 => gw ?_) (fun h15 => gw ?_)
 ·refine S.r (Qt.index uT cT rfl rfl ow (Has.ro hB) (by rw [zcl]; omega)) ?_
  refine S.r (Qt.load rfl (Ld.slr (vs := zaT (l.getD k zaU)) (Has.ro hB) rT (by rw [zax]; exact ce138) (by rw [zax]; decide) (zec ow rfl))) (gw ?_)
  intro b8
  refine gw ?_
  refine S.opN rfl (OpV.storeV0 (v := .agg (zaT (l.getD k zaU)).toArray) rfl rfl (by rw [zav, zax]; exact ce138) (zdX _) (by rw [zav, zax]; rfl) ?_)
  refine gw ?_
  refine S.c0 J55 (fun w hw => hEm w (hT.at hw)) ?_
  refine S.r (Qt.as (Qt.index_row (i := 0) uT rT ce49 rfl rfl (by decide)) (show _ = hv (E 0) by rw [zo6 (l := zbd E) (i := 0) (by rw [zaQ]; decide), zdJ E (by decide)]; rfl)) (gw ?_)
  intro b9
  refine S.opN rfl (OpV.storeV0 (v := hv (E 0)) rfl rfl (zab ce49) (zai _) (zaf _) ?_)
  refine gw ?_
  refine TC.ifb rfl (fun b22 => ?_) (fun b22 => ?_)
  ·refine gw ?_
   refine dr ([11], [10]) (gw ?_)
   refine D.qY 2 rfl (Qt.index uT cT rfl rfl ow (Has.ro hR) (by rw [zbi]; omega)) ?_
   refine D.qY 3 rfl (Qt.load rfl (Ld.sl (v := .int .u64 (((xs.getD k 0) : Nat) : Int)) (Has.ro hR) oT (zbO ow))) (gw ?_)
   refine D.qY 5 rfl (Qt.load rfl (Ld.row (vs := zaD (l.getD k zaU).s) hz1 rT (by rw [zam]; exact ce136) (zc9 _))) ?_
   by_cases hlt : (xs.getD k 0) < 4294967296
   ·refine D.c0 6 rfl J56 (fun w hw => Calls.ret (zgS (xs.getD k 0) hlt (l.getD k zaU).s w (hT.at hw))) (gw ?_)
    refine D.nN 10 rfl (OpV.alloc zT (fun b10 => (sbk ?_)))
    refine D.oN 11 rfl (OpV.storeV0 (v := hv (_)) rfl rfl (zab ce49) (zai _) (zaf _) (sbk ?_))
    refine gw ?_
    refine D.fi (gw ?_)
    refine S.opN rfl (OpV.storeV1 (v := hv (shaH (zcN (xs.getD k 0) (l.getD k zaU).s))) rfl rfl (zab ce49) (zai _) (by rw [zaf, zaf]) ?_)
    refine gw ?_
    refine S.o (OpV.slice1 (bytes := 32) (v := hv (shaH (zcN (xs.getD k 0) (l.getD k zaU).s))) uT elem49 (by decide) rfl (zaf _) (fun g38 => ?_))
    refine S.o (OpV.app4 (bytes := 32) (news := hvl (shaH (zcN (xs.getD k 0) (l.getD k zaU).s))) uT elem49 rfl rfl (Has.blk (cs := hvl (shaH (zcN (xs.getD k 0) (l.getD k zaU).s))) hz0) (by rw [zag]) (List.all_eq_true.1 (zco _)) (by simp only [maxLen]; omega) ow (fun O3 d3 => ?_))
    refine gw ?_
    refine ⟨(k + 1, O3, d3), ?_, ?_, ⟨?_, ag⟩, (by dsimp only; rw [zjM, (show shaH (zb2 (xs.getD k 0) (l.getD k zaU)) = shaH (zcN (xs.getD k 0) (l.getD k zaU).s) by rw [zb2, if_pos b22])]; exact Sub.trans (sk (sd (sd (sd (sd sn0))))) (Sub.trans (sk sr) (Sub.of_perm pm4)))⟩
    ·exact ⟨by show _ ≤ _; dsimp only; omega, zl9 hq (fun _ => hlt)⟩
    ·show _ < _; dsimp only; omega
    exact outs
   ·refine D.c0 6 rfl J56 (fun w hw => Calls.ret (zjS (xs.getD k 0) ow (hlow _ (zbk 0 ow)) (l.getD k zaU).s w)) (gw ?_)
    refine D.nN 10 rfl (OpV.alloc zT (fun b10 => (sbk ?_)))
    refine D.oN 11 rfl (OpV.storeV0 (v := hv (_)) rfl rfl (zab ce49) (zai _) (zaf _) (sbk ?_))
    refine gw ?_
    refine D.fi (gw ?_)
    refine TC.ret (fR ?_)
    exact .inr ⟨fun h => hlt (h k ow b22), rfl, rfl⟩
  ·refine gw ?_
   refine S.o (OpV.slice1 (bytes := 32) (v := hv (E 0)) uT elem49 (by decide) rfl (zaf _) (fun g38 => ?_))
   refine S.o (OpV.app3 (bytes := 32) (news := hvl (E 0)) uT elem49 rfl rfl (Has.blk (cs := hvl (E 0)) hz0) (by rw [zag]) (List.all_eq_true.1 (zco _)) (by simp only [maxLen]; omega) ow (fun O3 d3 => ?_))
   refine gw ?_
   refine ⟨(k + 1, O3, d3), ?_, ?_, ⟨?_, ag⟩, (by dsimp only; rw [zjM, (show shaH (zb2 (xs.getD k 0) (l.getD k zaU)) = E 0 by rw [zb2, if_neg (by rw [b22]; decide), hE0])]; exact Sub.trans (sk (sd (sd (sd sn0)))) (Sub.trans (sk sr) (Sub.of_perm pm3)))⟩
   ·exact ⟨by show _ ≤ _; dsimp only; omega, zl9 hq (fun h => by rw [b22] at h; cases h)⟩
   ·show _ < _; dsimp only; omega
   exact outs
 ·refine TC.exit (TC.seq (gw ?_))
  refine S.dec rfl rfl (Qt.eq rfl rfl) (fun h46 => gw ?_) (fun h46 => gw ?_)
  ·refine TC.ret (finQ.ret rv sr ?_)
   obtain rfl : k = l.length := by omega
   exact .inl ⟨hq, O, d, by rw [decide_eq_true h46]; rfl, rfl⟩
  ·refine TC.ret (finQ.ret rv sr ?_)
   obtain rfl : k = l.length := by omega
   exact .inl ⟨hq, O, d, by rw [decide_eq_false h46]; rfl, rfl⟩
theorem zhX (E : Nat → H32) (hEm : ∀ w, Tabs 3 1 w [] → Calls prog 55 #[] w (Ret w (.agg (hcs (zbd E)).toArray))) (hE0 : E 0 = shaH [0]) (A : OAd) (c : Nat) (xs : List Nat) (B : OAd) (b : Nat) (l : List Go.E.Item) (hle : l.length ≤ xs.length) (hn : l.length ≤ 65536) (hi : inR xs l l.length) (hl : xs.length = l.length) (w0 : World) (hlow : ∀ x ∈ xs, x < 18446744073709551616) (hR : Ro w0 [] (SlA A (u64s xs))) (hB : Ro w0 [] (SlA B (l.flatMap zaT))) (hT : Tabs 3 1 w0 []) : Calls prog 13 #[.slice A xs.length c, .slice B l.length b] w0 (Post w0 [] fun v L => ∃ O d, v = .tuple #[.slice O l.length d, .bool true] ∧ L = [OwnA 49 32 O l.length d (hcs (za4 xs l l.length))]) :=
 (zds E hEm hE0 A c xs B b l hle hn w0 hlow hR hB hT).mono fun e w ⟨v, L, h1, h2, hc⟩ => ⟨v, L, h1, h2, (hc.elim (fun ⟨_, O, d, h3, h4⟩ => ⟨O, d, by rw [h3, decide_eq_true hl], h4⟩) (fun h => absurd hi h.1))⟩
theorem znd (E : Nat → H32) (hEm : ∀ w, Tabs 3 1 w [] → Calls prog 55 #[] w (Ret w (.agg (hcs (zbd E)).toArray))) (hE0 : E 0 = shaH [0]) (A : OAd) (c : Nat) (xs : List Nat) (B : OAd) (b : Nat) (l : List Go.E.Item) (hle : l.length ≤ xs.length) (hn : l.length ≤ 65536) (hi : inR xs l l.length) (hl : xs.length ≠ l.length) (w0 : World) (hlow : ∀ x ∈ xs, x < 18446744073709551616) (hR : Ro w0 [] (SlA A (u64s xs))) (hB : Ro w0 [] (SlA B (l.flatMap zaT))) (hT : Tabs 3 1 w0 []) : Calls prog 13 #[.slice A xs.length c, .slice B l.length b] w0 (Post w0 [] fun v L => ∃ O d, v = .tuple #[.slice O l.length d, .bool false] ∧ L = [OwnA 49 32 O l.length d (hcs (za4 xs l l.length))]) :=
 (zds E hEm hE0 A c xs B b l hle hn w0 hlow hR hB hT).mono fun e w ⟨v, L, h1, h2, hc⟩ => ⟨v, L, h1, h2, (hc.elim (fun ⟨_, O, d, h3, h4⟩ => ⟨O, d, by rw [h3, decide_eq_false hl], h4⟩) (fun h => absurd hi h.1))⟩
theorem zhY (E : Nat → H32) (hEm : ∀ w, Tabs 3 1 w [] → Calls prog 55 #[] w (Ret w (.agg (hcs (zbd E)).toArray))) (hE0 : E 0 = shaH [0]) (A : OAd) (c : Nat) (xs : List Nat) (B : OAd) (b : Nat) (l : List Go.E.Item) (hle : l.length ≤ xs.length) (hn : l.length ≤ 65536) (hi : ¬ inR xs l l.length) (w0 : World) (hlow : ∀ x ∈ xs, x < 18446744073709551616) (hR : Ro w0 [] (SlA A (u64s xs))) (hB : Ro w0 [] (SlA B (l.flatMap zaT))) (hT : Tabs 3 1 w0 []) : Calls prog 13 #[.slice A xs.length c, .slice B l.length b] w0 (Post w0 [] fun v L => v = .tuple #[.slice none 0 0, .bool false] ∧ L = []) :=
 (zds E hEm hE0 A c xs B b l hle hn w0 hlow hR hB hT).mono fun e w ⟨v, L, h1, h2, hc⟩ => ⟨v, L, h1, h2, (hc.elim (fun h => absurd h.1 hi) (fun h => ⟨h.2.1, h.2.2⟩))⟩
end Go.Proofs.YtgdjcmehlhebdaaGreatDoor
