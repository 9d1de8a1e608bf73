/- Walks: roots and checks -/
import Derived.Test.YtgdjcmehlhebdaaGreatDoorYK
set_option maxHeartbeats 25600000
namespace Go.Proofs.YtgdjcmehlhebdaaGreatDoor
open _root_.Go.Proofs.Tryz
open Go.E
set_option maxRecDepth 4000
instance (n a b : Nat) : Decidable (zrR n a b) := inferInstanceAs (Decidable (_ ∨ _))
theorem zpH (root : H32) (z : Int) (A : OAd) (c : Nat) (xs : List Nat) (hc : xs.length ≤ c) (B : OAd) (b : Nat) (ls : List H32) (Z : OAd) (e : Nat) (bs : List H32) (hb : ls.length ≤ b) (hbs : bs.length ≤ e) (h0 : (zbL z xs ls bs).2 = 0) (w0 : World) (hlow : ∀ x ∈ xs, x < 18446744073709551616) (hR : Ro w0 [] (SlA A (u64s xs))) (hB : Ro w0 [] (SlA B (hcs ls))) (hD : Ro w0 [] (SlA Z (hcs bs))) (hT : Tabs 3 1 w0 []) :
  Calls prog 105 #[hv root, .int .i64 z, .slice A xs.length c, .slice B ls.length b, .slice Z bs.length e] w0 (Post w0 [] fun v L => v = errv 73 (if (zbL z xs ls bs).1 ≠ root then 5 else 0) ∧ L = []) := by
 refine co 30 [.tmp 10] func105 ?_
 refine gw ?_
 intro b5
 refine gw ?_
 refine S.c0 J168 (fun w hw => (by have h := ziw z A c xs hc B b ls Z e bs hb hbs w hlow (Rd.ro hR w hw) (Rd.ro hB w hw) (Rd.ro hD w hw) (hT.at hw); rw [h0] at h; exact h : Calls prog 168 #[.int .i64 z, .slice A xs.length c, .slice B ls.length b, .slice Z bs.length e] w (Ret w (.tuple #[hv (zbL z xs ls bs).1, .nilIface])))) (gw ?_)
 intro b11
 refine S.opN rfl (OpV.storeV0 (v := hv (_)) rfl rfl (zab ce49) (zai _) (zaf _) ?_)
 refine gw ?_
 refine S.dec rfl rfl (Qt.neH (a := (zbL z xs ls bs).1) (b := root) guard49 uT uT cT rfl rfl) (fun h28 => gw ?_) (fun h28 => gw ?_)
 ·refine TC.ret (fR ?_)
  exact ⟨by rw [if_pos h28]; rfl, rfl⟩
 ·refine TC.ret (fR ?_)
  exact ⟨by rw [if_neg h28]; rfl, rfl⟩
theorem zpI (root : H32) (z : Int) (A : OAd) (c : Nat) (xs : List Nat) (hc : xs.length ≤ c) (B : OAd) (b : Nat) (ls : List H32) (Z : OAd) (e : Nat) (bs : List H32) (hb : ls.length ≤ b) (hbs : bs.length ≤ e) (k : Nat) (h0 : (zbL z xs ls bs).2 = k) (hk : k ≠ 0) (w0 : World) (hlow : ∀ x ∈ xs, x < 18446744073709551616) (hR : Ro w0 [] (SlA A (u64s xs))) (hB : Ro w0 [] (SlA B (hcs ls))) (hD : Ro w0 [] (SlA Z (hcs bs))) (hT : Tabs 3 1 w0 []) :
  Calls prog 105 #[hv root, .int .i64 z, .slice A xs.length c, .slice B ls.length b, .slice Z bs.length e] w0 (Post w0 [] fun v L => v = .iface 73 (.int .i64 (k : Int)) ∧ L = []) := by
 refine co 30 [.tmp 10] func105 ?_
 refine gw ?_
 intro b5
 refine gw ?_
 refine S.c0 J168 (fun w hw => (by have h := ziw z A c xs hc B b ls Z e bs hb hbs w hlow (Rd.ro hR w hw) (Rd.ro hB w hw) (Rd.ro hD w hw) (hT.at hw); rw [h0, zdd hk] at h; exact h : Calls prog 168 #[.int .i64 z, .slice A xs.length c, .slice B ls.length b, .slice Z bs.length e] w (Ret w (.tuple #[hv (zbL z xs ls bs).1, .iface 73 (.int .i64 (k : Int))])))) (gw ?_)
 intro b11
 refine S.opN rfl (OpV.storeV0 (v := hv (_)) rfl rfl (zab ce49) (zai _) (zaf _) ?_)
 refine gw ?_
 refine TC.ret (fR ?_)
 exact ⟨rfl, rfl⟩
theorem ze7 (root : H32) (z : Int) (A : OAd) (c : Nat) (xs : List Nat) (hc : xs.length ≤ c) (B : OAd) (b : Nat) (ls : List H32) (Z : OAd) (e : Nat) (bs : List H32) (hb : ls.length ≤ b) (hbs : bs.length ≤ e) (w0 : World) (hlow : ∀ x ∈ xs, x < 18446744073709551616) (hR : Ro w0 [] (SlA A (u64s xs))) (hB : Ro w0 [] (SlA B (hcs ls))) (hD : Ro w0 [] (SlA Z (hcs bs))) (hT : Tabs 3 1 w0 []) : Calls prog 105 #[hv root, .int .i64 z, .slice A xs.length c, .slice B ls.length b, .slice Z bs.length e] w0 (Ret w0 (errv 73 (chkR root z xs ls bs))) := by
 by_cases h : (zbL z xs ls bs).2 = 0
 ·rw [chkR, if_neg (fun k => k h)]
  exact Calls.ret (zpH root z A c xs hc B b ls Z e bs hb hbs h w0 hlow hR hB hD hT)
 ·rw [chkR, if_pos h, zdd h]
  exact Calls.ret (zpI root z A c xs hc B b ls Z e bs hb hbs _ rfl h w0 hlow hR hB hD hT)
theorem zpJ (x : H32) (xs : List H32) (cs : List Value) : (hvl x ++ cs.drop 32).take 32 ++ hcs xs ++ (hvl x ++ cs.drop 32).drop (32 + (hcs xs).length) = hcs (x :: xs) ++ cs.drop ((xs.length + 1) * 32) := by
 rw [List.take_left' (zag x), ← List.drop_drop, List.drop_left' (zag x), List.drop_drop, zah, za7, show 32 + xs.length * 32 = (xs.length + 1) * 32 by omega]
theorem znm (x : H32) (xs : List H32) (cs r : List Value) (h : 32 ≤ cs.length) : (cs.take 32 ++ hcs xs ++ r).take 0 ++ hvl x ++ (cs.take 32 ++ hcs xs ++ r).drop (0 + (hvl x).length) = hcs (x :: xs) ++ r := by
 rw [List.take_zero, List.nil_append, Nat.zero_add, zag, List.append_assoc (cs.take 32), List.drop_left' (by rw [List.length_take]; omega), za7, List.append_assoc]
theorem Has.front {C : Ctx} {L : List Assn} {b k : Nat} {T : TypeId} {cs ys : List Value} (h : Has C L (Blk b T cs)) (e : cs.take k = ys) : Has C L (SlA (some ⟨b, 0, none⟩) ys) := e ▸ Has.take (Has.blk h) k
theorem TL.shutOwn {C : Ctx} {Q : EQ} {env : Env} {ops : Array Oper} {l : List Oper} {L0 L : List Assn} {e : TypeId} {sz g n c : Nat} {cs : List Value} (hl : cs.length = c * sz) (hn : n ≤ c) (hm : c ≤ maxLen) (s : L0.Perm (Blk g e cs :: L)) (h : TL C ops Q l env (OwnA e sz (some ⟨g, 0, none⟩) n c (cs.take (n * sz)) :: L)) : TL C ops Q l env L0 :=
 fun a w ha hw => h a w ha ((hw.perm s).shutOwn hl hn hm)
theorem zpK (A : OAd) (c : Nat) (xs : List H32) (gv : Nat) (x : H32) (h0 : 0 < xs.length) (hm : xs.length ≤ 65536) (hg : c < xs.length + 1) (w0 : World) (hL : Sat w0 [OwnA 49 32 A xs.length c (hcs xs)]) (hV : Ro w0 (fps [OwnA 49 32 A xs.length c (hcs xs)]) (Blk gv 49 (hvl x))) :
    Calls prog 65 #[.slice A xs.length c, .int .i64 ((0 : Nat) : Int), .slice (some ⟨gv, 0, none⟩) 1 1] w0 (Post w0 (fps [OwnA 49 32 A xs.length c (hcs xs)]) fun v L => ∃ O d, v = .slice O (xs.length + 1) d ∧ L = [OwnA 49 32 O (xs.length + 1) d (hcs (x :: xs))]) := by
  refine Calls.of (L := [OwnA 49 32 A xs.length c (hcs xs)]) (n := 95) (rs := [.tmp 6]) func65 rfl rfl rfl (Nat.le_of_ble_eq_true rfl) (hL) ?_
  refine TC.openOwn (fun hA hz _ _ => absurd hz ow) (fun g cs hO hct hcl hnc hcm => ?_)
  subst hO
  have hgv : gv ≠ g := fun e => by have q := hV.2 gv (List.mem_singleton.2 rfl); subst e; exact q.2 (by simp [fps, OwnA, Value.ownBlock])
  have hcx : (hcs xs).length = xs.length * 32 := zah xs
  refine TC.seq ?_
  refine TC.region ?_
  refine S.as ?_
  refine S.nil ?_
  refine TC.seq ?_
  refine TC.region ?_
  refine S.mv ?_
  refine S.mv ?_
  refine S.r (Qt.slice_lo uT cT rfl rfl ow) ?_
  refine S.nil ?_
  refine TC.seq ?_
  refine TC.region ?_
  refine S.mv ?_
  refine S.r (Qt.len_slice uT rfl) ?_
  refine S.as ?_
  refine S.nil ?_
  refine TC.seq ?_
  refine TC.seq ?_
  refine TC.region ?_
  refine S.mv ?_
  refine S.r (Qt.dF (Qt.eq (b := 0) rfl rfl) (by decide)) ?_
  refine S.nil ?_
  refine S.if_f rfl ?_
  refine TC.skip ?_
  refine TC.seq ?_
  refine TC.region ?_
  refine S.mv ?_
  refine S.r (Qt.len_slice uT rfl) ?_
  refine S.as ?_
  refine S.nil ?_
  refine TC.seq ?_
  refine TC.seq ?_
  refine TC.region ?_
  refine S.mv ?_
  refine S.mv ?_
  refine S.r (Qt.dF (Qt.eq rfl rfl) ow) ?_
  refine S.nil ?_
  refine S.if_f rfl ?_
  refine TC.skip ?_
  refine TC.seq ?_
  refine TC.seq ?_
  refine TC.region ?_
  refine S.mv ?_
  refine S.mv ?_
  refine S.r (Qt.add rfl rfl km) ?_
  refine S.mv ?_
  refine S.r (Qt.capS uT rfl) ?_
  refine S.r (Qt.dT (Qt.gt rfl rfl) ow) ?_
  refine S.nil ?_
  refine S.if_t rfl ?_
  refine TC.seq ?_
  refine TC.region ?_
  refine S.mv ?_
  refine S.mv ?_
  refine S.r (Qt.slice_hi uT cT rfl rfl ow) ?_
  refine S.mv ?_
  refine S.mv ?_
  refine S.r (Qt.add rfl rfl km) ?_
  refine S.mv ?_
  refine S.r (Qt.as (Qt.sub (b := 0) rfl rfl ow km) (by rw [Nat.sub_zero])) ?_
  refine S.o (OpV.appZ uT uT elem49 rfl rfl ow (by simp only [maxLen]; omega) ow (fun n1 c1 cs1 hc1 hm1 hl1 => ?_))
  refine S.as ?_
  refine S.nil ?_
  refine TC.seq ?_
  refine TC.region ?_
  refine S.mv ?_
  refine S.mv ?_
  refine S.r (Qt.as (v' := .slice (some ⟨n1, 0, none⟩) (xs.length + 1) c1) (Qt.slice_lo (l := 0) uT cT rfl rfl ow) (by simp [Addr.add])) ?_
  refine S.mv ?_
  refine S.o (OpV.copy0 (cs' := hvl x ++ cs1.drop 32) (news := hvl x) uT cT rfl rfl (Has.blk (Has.ro hV)) (by rw [zag, Nat.min_eq_left ow]) (zaw _) (by rw [zag, hl1]; omega) (by rw [zag]; simp) ?_)
  refine S.nil ?_
  refine TC.seq ?_
  refine S.draw ([8], []) mixed (sd (sk sn0)) ?_
  refine D.qY 0 rfl (Qt.move cw) ?_
  refine D.qY 1 rfl (Qt.move cw) ?_
  refine D.qY 2 rfl (Qt.move cw) ?_
  refine D.qY 3 rfl (Qt.add rfl rfl km) ?_
  refine D.qY 4 rfl (Qt.as (v' := .slice (some ⟨n1, 32, none⟩) xs.length (c1 - 1)) (Qt.slice_lo (l := 0 + 1) uT cT rfl rfl ow) (by rw [if_neg ow]; simp [Addr.add])) ?_
  refine D.qY 5 rfl (Qt.move cw) ?_
  refine D.qY 6 rfl (Qt.move cw) ?_
  refine D.qY 7 rfl (Qt.as (v' := .slice (some ⟨g, 0, none⟩) xs.length c) (Qt.slice_lo (l := 0) uT cT rfl rfl ow) (by simp [Addr.add])) ?_
  refine D.opS (k := 8) (sd (sk sn0)) rfl (by kernel_rfl) (by kernel_rfl) rfl rfl (OpV.copy0 (cs' := hcs (x :: xs) ++ cs1.drop ((xs.length + 1) * 32)) (news := hcs xs) uT cT rfl rfl (Has.front hz1 hct) (by rw [hcx, Nat.min_self]) (zeo _) (by rw [hcx, List.length_append, zag, List.length_drop, hl1]; omega) (zpJ x xs cs1) ⟨sd (sk sn0), ?_⟩)
  refine D.done (sd (sk sn0)) (by kernel_rfl) ?_
  refine TC.seq ?_
  refine TC.region ?_
  refine TL.shutOwn (n := xs.length + 1) (sz := 32) (by rw [List.length_append, zah, List.length_drop, hl1, List.length_cons]; omega) (hc1) (hm1) pr ?_
  rw [List.take_left' (by rw [zah, List.length_cons])]
  refine S.mv ?_
  refine S.as ?_
  refine S.nil ?_
  refine TC.ret (finQ.ret rv (sk (sd sn0)) ?_)
  exact ⟨some ⟨n1, 0, none⟩, c1, rfl, rfl⟩
theorem zpL (A : OAd) (c : Nat) (xs : List H32) (gv : Nat) (x : H32) (h0 : 0 < xs.length) (hm : xs.length ≤ 65536) (hg : xs.length + 1 ≤ c) (w0 : World) (hL : Sat w0 [OwnA 49 32 A xs.length c (hcs xs)]) (hV : Ro w0 (fps [OwnA 49 32 A xs.length c (hcs xs)]) (Blk gv 49 (hvl x))) :
    Calls prog 65 #[.slice A xs.length c, .int .i64 ((0 : Nat) : Int), .slice (some ⟨gv, 0, none⟩) 1 1] w0 (Post w0 (fps [OwnA 49 32 A xs.length c (hcs xs)]) fun v L => ∃ O d, v = .slice O (xs.length + 1) d ∧ L = [OwnA 49 32 O (xs.length + 1) d (hcs (x :: xs))]) := by
  refine Calls.of (L := [OwnA 49 32 A xs.length c (hcs xs)]) (n := 95) (rs := [.tmp 6]) func65 rfl rfl rfl (Nat.le_of_ble_eq_true rfl) (hL) ?_
  refine TC.openOwn (fun hA hz _ _ => absurd hz ow) (fun g cs hO hct hcl hnc hcm => ?_)
  subst hO
  have hgv : gv ≠ g := fun e => by have q := hV.2 gv (List.mem_singleton.2 rfl); subst e; exact q.2 (by simp [fps, OwnA, Value.ownBlock])
  have hcx : (hcs xs).length = xs.length * 32 := zah xs
  refine TC.seq ?_
  refine TC.region ?_
  refine S.as ?_
  refine S.nil ?_
  refine TC.seq ?_
  refine TC.region ?_
  refine S.mv ?_
  refine S.mv ?_
  refine S.r (Qt.slice_lo uT cT rfl rfl ow) ?_
  refine S.nil ?_
  refine TC.seq ?_
  refine TC.region ?_
  refine S.mv ?_
  refine S.r (Qt.len_slice uT rfl) ?_
  refine S.as ?_
  refine S.nil ?_
  refine TC.seq ?_
  refine TC.seq ?_
  refine TC.region ?_
  refine S.mv ?_
  refine S.r (Qt.dF (Qt.eq (b := 0) rfl rfl) (by decide)) ?_
  refine S.nil ?_
  refine S.if_f rfl ?_
  refine TC.skip ?_
  refine TC.seq ?_
  refine TC.region ?_
  refine S.mv ?_
  refine S.r (Qt.len_slice uT rfl) ?_
  refine S.as ?_
  refine S.nil ?_
  refine TC.seq ?_
  refine TC.seq ?_
  refine TC.region ?_
  refine S.mv ?_
  refine S.mv ?_
  refine S.r (Qt.dF (Qt.eq rfl rfl) ow) ?_
  refine S.nil ?_
  refine S.if_f rfl ?_
  refine TC.skip ?_
  refine TC.seq ?_
  refine TC.seq ?_
  refine TC.region ?_
  refine S.mv ?_
  refine S.mv ?_
  refine S.r (Qt.add rfl rfl km) ?_
  refine S.mv ?_
  refine S.r (Qt.capS uT rfl) ?_
  refine S.r (Qt.dF (Qt.gt rfl rfl) ow) ?_
  refine S.nil ?_
  refine S.if_f rfl ?_
  refine TC.skip ?_
  refine TC.seq ?_
  refine TC.region ?_
  refine S.mv ?_
  refine S.mv ?_
  refine S.mv ?_
  refine S.r (Qt.add rfl rfl km) ?_
  refine S.r (Qt.slice_hi uT cT rfl rfl ow) ?_
  refine S.as ?_
  refine S.nil ?_
  refine TC.seq ?_
  refine TC.seq ?_
  refine TC.region ?_
  refine S.mv ?_
  refine S.mv ?_
  refine S.mv ?_
  refine S.mv ?_
  refine S.r (Qt.add rfl rfl km) ?_
  refine S.r (Qt.as (v' := .slice (some ⟨g, 32, none⟩) xs.length (c - 1)) (Qt.slice_lo (l := 0 + 1) uT cT rfl rfl ow) (by rw [if_neg ow]; simp [Addr.add])) ?_
  refine S.r (Qt.overlaps (T := 33) (e := 49) (TR := 4) func130 (by kernel_rfl) (by kernel_rfl) (by kernel_rfl) (by kernel_rfl) uT cT rfl rfl rfl (Has.ro hV) hz0 hgv (by rw [hcl]; omega)) ?_
  refine S.r (Qt.not_f rfl) ?_
  refine S.nil ?_
  refine S.if_t rfl ?_
  refine TC.seq ?_
  refine dw ([8], []) ?_
  refine D.qY 0 rfl (Qt.move cw) ?_
  refine D.qY 1 rfl (Qt.move cw) ?_
  refine D.qY 2 rfl (Qt.move cw) ?_
  refine D.qY 3 rfl (Qt.add rfl rfl km) ?_
  refine D.qY 4 rfl (Qt.as (v' := .slice (some ⟨g, 32, none⟩) xs.length (c - 1)) (Qt.slice_lo (l := 0 + 1) uT cT rfl rfl ow) (by rw [if_neg ow]; simp [Addr.add])) ?_
  refine D.qY 5 rfl (Qt.move cw) ?_
  refine D.qY 6 rfl (Qt.move cw) ?_
  refine D.qY 7 rfl (Qt.as (v' := .slice (some ⟨g, 0, none⟩) (xs.length + 1) c) (Qt.slice_lo (l := 0) uT cT rfl rfl ow) (by simp [Addr.add])) ?_
  refine D.opS (k := 8) sn rfl (by kernel_rfl) (by kernel_rfl) rfl rfl (OpV.copy0 (cs' := cs.take 32 ++ hcs xs ++ cs.drop (32 + (hcs xs).length)) (news := hcs xs) uT cT rfl rfl (Has.front hz0 hct) (by rw [hcx, Nat.min_eq_right ow]) (zeo _) (by rw [hcx, hcl]; omega) (rfl) ⟨sn, ?_⟩)
  refine D.done sn (by kernel_rfl) ?_
  refine TC.seq ?_
  refine TC.region ?_
  refine S.mv ?_
  refine S.mv ?_
  refine S.r (Qt.as (v' := .slice (some ⟨g, 0, none⟩) (xs.length + 1) c) (Qt.slice_lo (l := 0) uT cT rfl rfl ow) (by simp [Addr.add])) ?_
  refine S.mv ?_
  refine S.o (OpV.copy0 (cs' := hcs (x :: xs) ++ cs.drop (32 + (hcs xs).length)) (news := hvl x) uT cT rfl rfl (Has.blk (Has.ro hV)) (by rw [zag, Nat.min_eq_left ow]) (zaw _) (by rw [zag, List.length_append, List.length_append, List.length_take, hcx, hcl]; omega) (znm x xs cs _ (by rw [hcl]; omega)) ?_)
  refine S.nil ?_
  refine TC.seq ?_
  refine TC.region ?_
  refine TL.shutOwn (n := xs.length + 1) (sz := 32) (by rw [List.length_append, zah, List.length_drop, hcx, hcl, List.length_cons]; omega) (hg) (hcm) pr ?_
  rw [List.take_left' (by rw [zah, List.length_cons])]
  refine S.mv ?_
  refine S.as ?_
  refine S.nil ?_
  refine TC.ret (finQ.ret rv sr ?_)
  exact ⟨some ⟨g, 0, none⟩, c, rfl, rfl⟩
theorem zli (A : OAd) (c : Nat) (xs : List H32) (gv : Nat) (x : H32) (h0 : 0 < xs.length) (hm : xs.length ≤ 65536)  (w0 : World) (hL : Sat w0 [OwnA 49 32 A xs.length c (hcs xs)]) (hV : Ro w0 (fps [OwnA 49 32 A xs.length c (hcs xs)]) (Blk gv 49 (hvl x))) : Calls prog 65 #[.slice A xs.length c, .int .i64 ((0 : Nat) : Int), .slice (some ⟨gv, 0, none⟩) 1 1] w0 (Post w0 (fps [OwnA 49 32 A xs.length c (hcs xs)]) fun v L => ∃ O d, v = .slice O (xs.length + 1) d ∧ L = [OwnA 49 32 O (xs.length + 1) d (hcs (x :: xs))]) := by
 rcases Nat.lt_or_ge c (xs.length + 1) with h | h
 ·exact zpK A c xs gv x h0 hm h w0 hL hV
 ·exact zpL A c xs gv x h0 hm h w0 hL hV
def zbr (lv : Nat) (xs : List H32) (i : Nat) : H32 := zbj lv (xs.getD (2 * i) zac) (xs.getD (2 * i + 1) zac)
theorem Ro.part {w : World} {M : List Nat} {A : OAd} {cs : List Value} (h : Ro w M (SlA A cs)) (k n : Nat) : Ro w M (SlA (A.map (·.add k)) ((cs.drop k).take n)) := by
 have h1 := h.cut (c := 0) (l := 1) (k := k) (fun e => by cases e)
 rw [if_neg (by decide)] at h1
 exact h1.take n
theorem zj4 {xs : List H32} {m i : Nat} (hm : xs.length = 2 * m) (hi : i < m) : ((hcs xs).drop (2 * i * 32)).take 64 = hcs [xs.getD (2 * i) zac, xs.getD (2 * i + 1) zac] := by
 rw [zeK, show (64 : Nat) = 2 * 32 from rfl, zd2]
 congr 1
 have h1 : 2 * i < xs.length := by omega
 have h2 : 2 * i + 1 < xs.length := by omega
 rw [List.drop_eq_getElem_cons h1, List.drop_eq_getElem_cons h2]
 rw [show xs.getD (2 * i) zac = xs[2 * i] by simp [List.getD, h1], show xs.getD (2 * i + 1) zac = xs[2 * i + 1] by simp [List.getD, h2]]
 rfl
theorem zg9 (A : OAd) (N c n : Nat) (hn : 1 ≤ n) (w0 : World) :
  Calls prog 132 #[.slice A N c, .int .i64 (n : Int)] w0 (Post w0 [] fun v L => ∃ b2 b3, v = .func (.func 186) #[] #[.pointer (some ⟨b2, 0, none⟩), .pointer (some ⟨b3, 0, none⟩)] ∧ L = [Blk b3 3 [.int .i64 (n : Int)], Blk b2 33 [.slice A N c]]) := by
 refine co 9 [.tmp 4] func132 ?_
 refine gw ?_
 intro b2
 refine gw ?_
 intro b3
 refine gw ?_
 refine S.r (Qt.dF (Qt.lt (b := 1) rfl rfl) ow) (gw ?_)
 refine S.r (Qt.makeFuncL (fs := []) (cs := [.pointer (some ⟨b2, 0, none⟩), .pointer (some ⟨b3, 0, none⟩)]) rfl rfl) (gw ?_)
 refine TC.ret (fin1 sr ?_)
 exact ⟨_, _, rfl, rfl⟩
theorem zj5 (A : OAd) (m c n : Nat) (hn : 1 ≤ n) (hc : n * m ≤ c) (hc2 : c ≤ 9223372036854775807) (b2 b3 l : Nat) (J : Bool → List (Fin m) → List Assn → Prop) (w0 : World) (L0 : List Assn) (h0 : Sat w0 L0) (hJ : J true [] L0) (hB2 : Ro w0 (fps L0) (Blk b2 33 [.slice A (n * m) c])) (hB3 : Ro w0 (fps L0) (Blk b3 3 [.int .i64 (n : Int)]))
  (hY : ∀ pre x w' L', (fun ys : List (Fin m) => ∃ j, j ≤ m ∧ ys = (List.finRange m).take j) (pre ++ [x]) → J true pre L' → St w0 (fps L0) L' w' → YieldAt Fence.wide 0 prog l ((fun i : Fin m => [.slice (A.map (·.add (n * i.val * 32))) n n]) x).toArray w' fun e w'' => ∃ L'', St w' (fps L') L'' w'' ∧ ((e = .returned (.bool true) ∧ J true (pre ++ [x]) L'') ∨ (e = .returned (.bool false) ∧ J false (pre ++ [x]) L''))) :
  Calls prog 186 #[.func (.yield l) #[] #[], .pointer (some ⟨b2, 0, none⟩), .pointer (some ⟨b3, 0, none⟩)] w0 (Post w0 (fps L0) fun v L => (∃ xs, xs = List.finRange m ∧ J true xs L) ∨ (∃ pre, True ∧ J false pre L)) := by
 refine cof (L := L0) 31 [] func186 h0 ?_
 refine gw ?_
 refine TC.loop (γ := Nat × List Assn) [6, 7, 8, 9, 13, 14, 15, 16, 17, 18, 5, 19, 20, 21, 22, 23, 24, 25, 26, 27, 28, 29, 30, 10, 11, 12, 4] (fun g => [(4, .int .i64 ((n * g.1 : Nat) : Int))]) (fun g => g.2) (fun g => g.1 ≤ m ∧ J true ((List.finRange m).take g.1) g.2) (fun g => m - g.1) ((0, L0))
  ⟨Nat.zero_le _, hJ⟩ ⟨Out.refl _ _, ag⟩ sr ?_
 rintro ⟨k, Z⟩ u ⟨hk, hj⟩
 dsimp only at hk hj
 refine gw ?_
 refine S.dec rfl rfl (Qt.lt rfl rfl) (fun h9 => gw ?_) (fun h9 => gw ?_)
 ·refine dw ([], []) ?_
  have hkm : k < m := Nat.lt_of_mul_lt_mul_left (a := n) h9
  have hkn : n * k + n ≤ n * m := by rw [← Nat.mul_succ]; exact Nat.mul_le_mul_left _ hkm
  have hkn2 : n * (k, Z).fst + n ≤ n * m := hkn
  refine gw ?_
  refine D.qY 3 rfl (Qt.slice_lo uT cT rfl rfl ow) (gw ?_)
  refine D.qY 5 rfl (Qt.as (Qt.minN rfl rfl) (by rw [Nat.min_eq_left (show n ≤ n * m - n * k by omega)])) (gw ?_)
  refine D.fi (gw ?_)
  refine S.r (Qt.add rfl rfl km) (gw ?_)
  refine S.r (Qt.add rfl rfl km) ?_
  refine S.r (Qt.as (v' := .slice (A.map (·.add (n * k * 32))) n n) (Qt.slice3 uT cT rfl rfl rfl rfl ow ow ow) (by rw [if_neg ow, show n * k + n - n * k = n by omega])) ?_
  refine S.o (OpV.yield2 (L1 := []) (enc := (fun i : Fin m => [.slice (A.map (·.add (n * i.val * 32))) n n])) ⟨k, hkm⟩ (fun w' L' => hY _ _ w' L' ⟨k + 1, hkm, (zbH hkm).symm⟩) rfl rfl hj (fun Z2 hj2 => ?_) (fun Z2 hj2 => ?_))
  ·rw [← zbH hkm] at hj2
   refine gw ?_
   refine S.r (Qt.add rfl rfl km) (gw ?_)
   refine ⟨(k + 1, Z2), ?_, ?_, ⟨?_, ag⟩, sr⟩
   ·exact ⟨by show _ ≤ _; dsimp only; omega, hj2⟩
   ·show _ < _; dsimp only; omega
   exact outs
  ·refine gw ?_
   refine TC.ret ?_
   refine finQ.ret RVs.nil sr ?_
   exact .inr ⟨_, trivial, hj2⟩
 ·refine TC.exit ?_
  refine finQ.normal RVs.nil sr ?_
  have hkm : m ≤ k := Nat.le_of_mul_le_mul_left (Nat.le_of_not_lt h9) hn
  obtain rfl : k = m := by omega
  rw [zcQ] at hj
  exact .inl ⟨_, rfl, hj⟩
theorem zh4 (A : OAd) (m c n : Nat) (hn : 1 ≤ n) (hc : n * m ≤ c) (hc2 : c ≤ 9223372036854775807) (b2 b3 : Nat) (w : World) (L0 : List Assn) (h0 : Sat w L0) (hB2 : Ro w (fps L0) (Blk b2 33 [.slice A (n * m) c])) (hB3 : Ro w (fps L0) (Blk b3 3 [.int .i64 (n : Int)])) :
  Gen2 prog 186 #[.pointer (some ⟨b2, 0, none⟩), .pointer (some ⟨b3, 0, none⟩)] (fun i : Fin m => [.slice (A.map (·.add (n * i.val * 32))) n n]) (fun xs => xs = List.finRange m) (fun _ => True) (fun ys : List (Fin m) => ∃ j, j ≤ m ∧ ys = (List.finRange m).take j) w L0 := fun l J hJ hY =>
 zj5 A m c n hn hc hc2 b2 b3 l J w L0 h0 hJ hB2 hB3 hY
theorem zdw (lv : Nat) (h1 : 1 ≤ lv) (h2 : lv ≤ 32) (A : OAd) (m c : Nat) (xs : List H32) (hm : xs.length = 2 * m) (hc : 2 * m ≤ c) (hcm : c ≤ 9223372036854775807) (hb : m ≤ 65536) (w0 : World) (hR : Ro w0 [] (SlA A (hcs xs))) (hT : Tabs 3 1 w0 []) :
  Calls prog 66 #[.int .i64 (lv : Int), .slice A (2 * m) c] w0 (Post w0 [] fun v L => ∃ O d, v = .tuple #[.slice O m d, .nilIface] ∧ L = [OwnA 49 32 O m d (hcs ((List.finRange m).map (fun i : Fin m => zbr lv xs i.val)))]) := by
 refine co 32 [.cell 4 33, .cell 5 51] func66 ?_
 refine TC.ownNil 49 32 (gw ?_)
 intro b2
 refine gw ?_
 intro b4
 refine gw ?_
 intro b5
 refine gw ?_
 intro b6
 refine gw ?_
 refine S.cn J132 (fun w hw => zg9 A (2 * m) c 2 (by decide) w) ?_
 rintro v L' ⟨c2, c3, rfl, rfl⟩
 refine gw ?_
 refine TC.rangeFunc2 (α := Fin m) (fun i : Fin m => [Value.slice (A.map (·.add (2 * i.val * 32))) 2 2]) (fun ys => ys = List.finRange m) (fun _ => True) (fun ys : List (Fin m) => ∃ j, j ≤ m ∧ ys = (List.finRange m).take j) (fun pre L' => ∃ O d, L' = [Blk b6 33 [.slice O pre.length d], OwnA 49 32 O pre.length d (hcs (pre.map (fun i : Fin m => zbr lv xs i.val)))]) (fun _ _ _ => False) (L0 := [Blk b6 33 [.slice none ([] : List (Fin m)).length 0], OwnA 49 32 none ([] : List (Fin m)).length 0 (hcs (([] : List (Fin m)).map (fun i : Fin m => zbr lv xs i.val)))]) rfl rfl J186 rfl (fun _ => rfl) (pm2.trans (pc pm5)) ⟨none, 0, rfl⟩ (fun w L' hw => zh4 A m c 2 (by decide) hc hcm c2 c3 w L' hw.sat.left (Ro.of_rest hw (.tail _ (.head _))) (Ro.of_rest hw (.head _))) ?_ ?_ (fun _ _ _ _ _ h => h.elim)
 ·rintro w' l Dd Rr Rb pre x L' hPf ⟨O, d, rfl⟩ hst
  have hpl : pre.length + 1 ≤ m := by obtain ⟨j, hj, e⟩ := hPf; have q := congrArg List.length e; rw [zaJ, List.length_take, List.length_finRange] at q; omega
  have hP : Ro w' (fps (Rr :: dfA Dd :: [Blk b6 33 [.slice O pre.length d], OwnA 49 32 O pre.length d (hcs (pre.map (fun i : Fin m => zbr lv xs i.val)))])) (SlA (A.map (·.add (2 * x.val * 32))) (hcs [xs.getD (2 * x.val) zac, xs.getD (2 * x.val + 1) zac])) := by
   rw [← zj4 hm x.isLt]; exact (Ro.of_pre hst hR).part _ _
  have hLv : Ro w' (fps (Rr :: dfA Dd :: [Blk b6 33 [.slice O pre.length d], OwnA 49 32 O pre.length d (hcs (pre.map (fun i : Fin m => zbr lv xs i.val)))])) (Blk b2 3 [.int .i64 (lv : Int)]) := Ro.of_rest hst (List.mem_of_getElem? (i := 4) rfl)
  have hT2 := Tabs.pre hT hst
  refine gw ?_
  refine ⟨_, sr, ?_⟩
  refine gw ?_
  refine dw ([12], [11]) (gw ?_)
  refine D.qY 2 rfl (Qt.index (i := 0) uT cT rfl rfl (by decide) (Has.ro hP) (by rw [zah]; show 0 * 32 < 2 * 32; decide)) ?_
  refine D.qY 3 rfl (Qt.load rfl (Ld.hashS (l := [xs.getD (2 * x.val) zac, xs.getD (2 * x.val + 1) zac]) (Has.ro hP) 0 rT ce49 (show 0 < 2 by decide) rfl)) (gw ?_)
  refine D.qY 5 rfl (Qt.index (i := 1) uT cT rfl rfl (by decide) (Has.ro hP) (by rw [zah]; show 1 * 32 < 2 * 32; decide)) ?_
  refine D.qY 6 rfl (Qt.load rfl (Ld.hashS (l := [xs.getD (2 * x.val) zac, xs.getD (2 * x.val + 1) zac]) (Has.ro hP) 1 rT ce49 (show 1 < 2 by decide) rfl)) ?_
  refine D.c0 7 rfl J117 (fun w hw => zhC lv h1 h2 (xs.getD (2 * x.val) zac) (xs.getD (2 * x.val + 1) zac) w (hT2.at hw)) (gw ?_)
  refine D.nN 11 rfl (OpV.alloc zT (fun b8 => (sbk ?_)))
  refine D.oN 12 rfl (OpV.storeV0 (v := hv (zbr lv xs x.val)) rfl rfl (zab ce49) (zai _) (zaf _) (sbk ?_))
  refine gw ?_
  refine D.fi (gw ?_)
  refine S.o (OpV.slice1 (bytes := 32) (v := hv (zbr lv xs x.val)) uT elem49 (by decide) rfl (zaf _) (fun g29 => ?_))
  refine S.o (OpV.app5 (bytes := 32) (news := hvl (zbr lv xs x.val)) uT elem49 rfl rfl (Has.blk (cs := hvl (zbr lv xs x.val)) hz0) (by rw [zag]) (zaw _) (by simp only [maxLen]; omega) ow (fun O' d' => ?_))
  refine S.opN rfl (OpV.storeV4 rfl cw (by exact ce33) (by rfl) (by rfl) ?_)
  refine gw ?_
  refine ⟨_, Sub.trans (sk (sk (sk (sk (sd (sd sn0)))))) (Sub.trans (sk (Sub.trans (sk (Sub.trans (sk (Sub.trans (sk sr) (Sub.of_perm pm2))) (Sub.of_perm pm2))) (Sub.of_perm pm2))) (Sub.of_perm pm2)), O', d', ?_⟩
  simp only [zaJ, List.map_append, zbg, List.map_cons, List.map_nil, za7, zen, List.append_nil]
  rfl
 ·rintro Dd ys L' rfl ⟨O, d, rfl⟩
  refine gw ?_
  refine S.opN rfl (OpV.storeV6 rfl cw (by exact ce33) (by rfl) (by rfl) ?_)
  refine S.opN rfl (OpV.storeV5 rfl cw (by exact ce51) (by rfl) (by rfl) ?_)
  refine gw ?_
  refine TC.ret ?_
  refine finQ.retM rfl sr (RVs.cell rfl (Ld.one (Has.at 5 rfl) oT (rfl)) (RVs.cell rfl (Ld.one (Has.at 4 rfl) oT (rfl)) RVs.nil)) (Sub.trans (sk (sd (sd (sd (sd (sd (sd sn0))))))) (Sub.trans (sk sr) (Sub.of_perm pm1))) ?_
  rw [List.length_finRange]
  exact ⟨O, d, rfl, rfl⟩
end Go.Proofs.YtgdjcmehlhebdaaGreatDoor
