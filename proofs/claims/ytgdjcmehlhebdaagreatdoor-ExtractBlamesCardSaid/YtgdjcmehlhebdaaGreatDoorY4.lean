/- Walks: the nodes of a proof -/
import Derived.Test.YtgdjcmehlhebdaaGreatDoorP1
set_option maxHeartbeats 25600000
namespace Go.Proofs.YtgdjcmehlhebdaaGreatDoor
open _root_.Go.Proofs.Tryz
open Go.E
set_option maxRecDepth 4000
theorem zkI (l p x lb pb : Nat) (hl : l < 32) (hp : p < 4294967296) (hx : x < 18446744073709551616) (w0 : World) (hV : Ro w0 [] (Blk lb 3 [.int .i64 ((l + 1 : Nat) : Int)])) (hP : Ro w0 [] (Blk pb 40 [.int .u64 (p : Int)])) :
  Calls prog 204 #[.int .u64 (x : Int), .pointer (some ⟨lb, 0, none⟩), .pointer (some ⟨pb, 0, none⟩)] w0 (Post w0 [] fun v L => v = .bool (decide (x / 2 ^ l ≠ 2 * p)) ∧ L = []) := by
 refine co 12 [.tmp 4] func204 ?_
 refine gw ?_
 refine dr ([], []) (gw ?_)
 refine D.qY 2 rfl (Qt.as (Qt.sub (a := l + 1) (b := 1) rfl rfl ow km) (by rw [Nat.add_sub_cancel])) ?_
 refine D.qY 3 rfl (Qt.shrN rfl rfl km) (gw ?_)
 refine D.qY 5 rfl (Qt.mul (a := 2) rfl rfl km) ?_
 refine D.qY 6 rfl (Qt.ne rfl rfl) (gw ?_)
 refine D.fi ?_
 refine TC.ret (fR ?_)
 exact ⟨rfl, rfl⟩
theorem zgz (fn : FuncId) (cp : Array Value) (q : Nat → Bool) (hent : zae prog fn) (A : OAd) (c : Nat) (xs : List Nat) (hn : xs.length ≤ 256) (w0 : World) (hR : Ro w0 [] (SlA A (u64s xs))) (hf : ∀ x ∈ xs, ∀ w, St w0 [] [] w → Calls prog fn ((([.int .u64 (x : Int)] : List Value) ++ cp.toList).toArray) w (Ret w (.bool (q x)))) :
  Calls prog 191 #[.slice A xs.length c, .func (.func fn) #[] cp] w0 (Post w0 [] fun v L => ∃ z : Int, v = .int .i64 z ∧ L = [] ∧ FoundI xs q z) := by
 refine co 19 [.tmp 4] func191 ?_
 refine gw ?_
 refine TC.loop (γ := Nat) [9, 10, 5, 11, 12, 13, 14, 15, 16, 17, 4, 18, 8] (fun k => [(8, .int .i64 (k : Int))]) (fun _ => _) (fun k => k ≤ xs.length ∧ ∀ j, j < k → q (xs.getD j 0) = false) (fun k => xs.length - k) (0)
  ⟨Nat.zero_le _, fun j h => absurd h (Nat.not_lt_zero _)⟩ ⟨Out.refl _ _, ag⟩ sr ?_
 rintro k u ⟨hk, hq⟩
 refine gw ?_
 refine S.dec rfl rfl (Qt.lt rfl rfl) (fun h9 => gw ?_) (fun h9 => gw ?_)
 ·refine S.r (Qt.index uT cT rfl rfl ow (Has.ro hR) (by rw [zbi]; omega)) ?_
  refine S.r (Qt.load rfl (Ld.sl (v := .int .u64 ((xs.getD k 0 : Nat) : Int)) (Has.ro hR) oT (zbO h9))) ?_
  refine S.o (OpV.con0 hent rfl (fun w hw => hf _ (zbk 0 h9) w hw) ?_)
  refine gw ?_
  refine TC.ifb rfl (fun b16 => ?_) (fun b16 => ?_)
  ·refine gw ?_
   refine TC.ret (fR ?_)
   exact ⟨_, rfl, rfl, fun h => by omega, fun _ => ⟨k, rfl, h9, hq, b16⟩⟩
  ·refine gw ?_
   refine ⟨k + 1, ?_, ?_, ⟨?_, ag⟩, sr⟩
   ·exact ⟨by show _ ≤ _; omega, fun j hj => (Nat.lt_or_ge j k).elim (hq j) (fun h => by (obtain rfl : j = k := by omega); exact b16)⟩
   ·show _ < _; dsimp only; omega
   exact outs
 ·refine TC.exit (TC.seq (gw ?_))
  refine TC.ret (fR ?_)
  exact ⟨_, rfl, rfl, fun _ j hj => hq j ow, fun h => absurd (by decide) h⟩
theorem zhK (height l p : Nat) (hh : height ≤ 32) (ho : okAt height (l + 1, p)) (A : OAd) (c : Nat) (xs : List Nat) (hs : xs.Pairwise (· < ·)) (hx : ∀ x ∈ xs, x / 2 ^ (l + 1) = p) (hc : xs.length ≤ c) (hn : xs.length ≤ 256) (w0 : World) (hR : Ro w0 [] (SlA A (u64s xs))) :
  Calls prog 187 #[.slice A xs.length c, .int .i64 ((l + 1 : Nat) : Int), .int .u64 (p : Int)] w0 (Post w0 [] fun v L => ∃ A' c', v = .tuple #[.slice A (cutN xs l (2 * p)).length c, .slice A' (cutN xs l (2 * p + 1)).length c'] ∧ L = [] ∧ (cutN xs l (2 * p + 1)).length ≤ c' ∧ ∀ w M, Ro w M (SlA A (u64s xs)) → Ro w M (SlA A (u64s (cutN xs l (2 * p)))) ∧ Ro w M (SlA A' (u64s (cutN xs l (2 * p + 1))))) := by
 refine co 21 [.tmp 6, .tmp 7] func187 ?_
 obtain ⟨hl32, hp32⟩ := zgu hh ho
 refine gw ?_
 intro b4
 refine gw ?_
 intro b5
 refine gw ?_
 refine S.r (Qt.makeFuncL (fs := []) (cs := [.pointer (some ⟨b4, 0, none⟩), .pointer (some ⟨b5, 0, none⟩)]) rfl rfl) ?_
 refine S.cn J191 (fun w hw => zgz 204 #[.pointer (some ⟨b4, 0, none⟩), .pointer (some ⟨b5, 0, none⟩)] (fun x => decide (x / 2 ^ l ≠ 2 * p)) J204 A c xs hn w (Rd.ro hR w hw) (fun x hm w' hw' => Calls.ret (zkI l p x b4 b5 ow hp32 (by have := zoq hh ho (hx x hm); omega) w' ((Rd.at 1 rfl w hw).go hw' (fun b hb => by cases hb)) ((Rd.at 0 rfl w hw).go hw' (fun b hb => by cases hb))))) ?_
 rintro v L' ⟨z, rfl, rfl, hz⟩
 refine gw ?_
 refine S.dec rfl rfl (Qt.lti rfl rfl) (fun h13 => gw ?_) (fun h13 => gw ?_)
 ·refine TC.ret (fR ?_)
  obtain ⟨e1, e2⟩ := zlS (i := xs.length) hs hx (fun j hj => Decidable.not_not.1 (of_decide_eq_false (hz.no h13 j hj))) (fun h => absurd h (Nat.lt_irrefl _))
  rw [List.take_length] at e1
  rw [List.drop_length] at e2
  exact ⟨none, 0, by rw [← e1, ← e2]; rfl, rfl, by rw [← e2]; exact Nat.le_refl _, fun w M h => by rw [← e1, ← e2]; exact ⟨h, Ro.slnil w M none⟩⟩
 ·refine dw ([], []) ?_
  obtain ⟨i, rfl, hi, hq1, hq2⟩ := hz.yes h13
  obtain ⟨e1, e2⟩ := zlS (i := i) hs hx (fun j hj => Decidable.not_not.1 (of_decide_eq_false (hq1 j hj))) (fun _ => of_decide_eq_true hq2)
  have hi2 : (xs.take i).length = i := by rw [List.length_take]; omega
  refine gw ?_
  refine D.qY 2 rfl (Qt.slice_hi uT cT rfl rfl ow) (gw ?_)
  refine D.qY 5 rfl (Qt.slice_lo uT cT rfl rfl ow) (gw ?_)
  refine D.fi ?_
  refine TC.ret (fR ?_)
  exact ⟨if c = i then A else A.map (·.add (i * 1)), c - i, by rw [← e1, ← e2, hi2, List.length_drop]; rfl, rfl, by rw [← e2, List.length_drop]; omega, fun w M h => by
    rw [← e1, ← e2, ← zop, ← znM]
    exact ⟨h.take i, by have h2 := h.cut (c := c) (l := i) (k := i) (fun e => by rw [zbi]; omega); rw [Nat.mul_one]; exact h2⟩⟩
theorem zjn (fn : FuncId) (cp : Array Value) (hent : zae prog fn) (height : Nat) (hh : height ≤ 32) (J : Sd → List Assn → Prop) (W : World) (M : List Nat) (B : Nat) (hf : FndC prog fn cp height J W M B) (l : Nat) (p : Nat) (xs : List Nat) (A : OAd) (c : Nat) (done : Sd) (L0 : List Assn) (w0 : World) (ho : okAt height (l, p)) (hs : xs.Pairwise (· < ·)) (hx : ∀ x ∈ xs, x / 2 ^ (l) = p) (hc : xs.length ≤ c) (hn : xs.length ≤ 256) (h0 : Sat w0 L0) (hR : Ro w0 (fps L0) (SlA A (u64s xs))) (hJ : J done L0) (hst : St W M L0 w0) (hB : done.length + (zaj (l) xs p).length ≤ B) (he : xs = []) :
  Calls prog 139 #[.slice A xs.length c, .int .i64 ((l : Nat) : Int), .int .u64 (p : Int), .func (.func fn) #[] cp] w0 (Post w0 (fps L0) fun v L => J (done ++ zaj (l) xs p) L) := by
 refine cof (L := L0) 43 [] func139 h0 ?_
 subst he
 rw [zbF, List.length_singleton] at hB
 rw [zbF]
 refine gw ?_
 refine S.r (Qt.dT (Qt.eq (b := 0) rfl rfl) (rfl)) (gw ?_)
 refine S.o (OpV.con (Pre := L0) (R := []) hent rfl ((zir _)) (fun w hw => hf (l, p) done L0 w ho ow hJ (hst.next (zjl hw))) ?_)
 rintro v L1 hJ1
 rw [List.append_nil]
 refine gw ?_
 refine finQ.normal RVs.nil sr ?_
 exact hJ1
theorem zos (fn : FuncId) (cp : Array Value) (hent : zae prog fn) (height : Nat) (hh : height ≤ 32) (J : Sd → List Assn → Prop) (W : World) (M : List Nat) (B : Nat) (hf : FndC prog fn cp height J W M B) (p : Nat) (xs : List Nat) (A : OAd) (c : Nat) (done : Sd) (L0 : List Assn) (w0 : World) (ho : okAt height (0, p)) (hs : xs.Pairwise (· < ·)) (hx : ∀ x ∈ xs, x / 2 ^ (0) = p) (hc : xs.length ≤ c) (hn : xs.length ≤ 256) (h0 : Sat w0 L0) (hR : Ro w0 (fps L0) (SlA A (u64s xs))) (hJ : J done L0) (hst : St W M L0 w0) (hB : done.length + (zaj (0) xs p).length ≤ B) (he : xs ≠ []) :
  Calls prog 139 #[.slice A xs.length c, .int .i64 ((0 : Nat) : Int), .int .u64 (p : Int), .func (.func fn) #[] cp] w0 (Post w0 (fps L0) fun v L => J (done ++ zaj (0) xs p) L) := by
 refine cof (L := L0) 43 [] func139 h0 ?_
 have hpos := List.length_pos_iff.2 he
 refine gw ?_
 refine S.r (Qt.dF (Qt.eq (b := 0) rfl rfl) ow) (gw ?_)
 refine S.r (Qt.dF (Qt.gt (b := 0) rfl rfl) ow) (gw ?_)
 refine finQ.normal RVs.nil sr ?_
 rw [zd7 he, List.append_nil]
 exact hJ
theorem zot (fn : FuncId) (cp : Array Value) (hent : zae prog fn) (height : Nat) (hh : height ≤ 32) (J : Sd → List Assn → Prop) (W : World) (M : List Nat) (B : Nat) (hf : FndC prog fn cp height J W M B) (l : Nat) (hrec : BesC prog 139 fn cp height J W M B l) (p : Nat) (xs : List Nat) (A : OAd) (c : Nat) (done : Sd) (L0 : List Assn) (w0 : World) (ho : okAt height (l + 1, p)) (hs : xs.Pairwise (· < ·)) (hx : ∀ x ∈ xs, x / 2 ^ (l + 1) = p) (hc : xs.length ≤ c) (hn : xs.length ≤ 256) (h0 : Sat w0 L0) (hR : Ro w0 (fps L0) (SlA A (u64s xs))) (hJ : J done L0) (hst : St W M L0 w0) (hB : done.length + (zaj (l + 1) xs p).length ≤ B) (he : xs ≠ []) :
  Calls prog 139 #[.slice A xs.length c, .int .i64 ((l + 1 : Nat) : Int), .int .u64 (p : Int), .func (.func fn) #[] cp] w0 (Post w0 (fps L0) fun v L => J (done ++ zaj (l + 1) xs p) L) := by
 refine cof (L := L0) 43 [] func139 h0 ?_
 have hpos := List.length_pos_iff.2 he
 obtain ⟨hl32, hp32⟩ := zgu hh ho
 obtain ⟨okl, okr⟩ := zdP ho
 rw [zcc he, List.length_append] at hB
 rw [zcc he, ← List.append_assoc]
 have hcl := zfY xs l (2 * p)
 have hcr := zfY xs l (2 * p + 1)
 refine gw ?_
 refine S.r (Qt.dF (Qt.eq (b := 0) rfl rfl) ow) (gw ?_)
 refine S.r (Qt.dT (Qt.gt (b := 0) rfl rfl) ow) (gw ?_)
 refine S.cn J187 (fun w hw => zhK height l p hh ho A c xs hs hx hc hn w (Rd.ro hR w hw)) ?_
 rintro v L' ⟨A', c', rfl, rfl, hc', hro⟩
 refine gw ?_
 refine S.r (Qt.as (Qt.sub (a := l + 1) (b := 1) rfl rfl ow km) (by rw [Nat.add_sub_cancel])) (gw ?_)
 refine S.r (Qt.mul (a := 2) rfl rfl km) (gw ?_)
 refine S.o (OpV.con (Pre := L0) (R := []) J139 rfl ((zir _)) (fun w hw => hrec (2 * p) (cutN xs l (2 * p)) A c done L0 w okl (zbN hs) zcg ow ow (zjl hw).sat (hro w _ (Ro.of_pre hw hR)).1 hJ (hst.next (zjl hw)) ow) ?_)
 rintro v L1 hJ1
 rw [List.append_nil]
 refine gw ?_
 refine S.r (Qt.as (Qt.sub (a := l + 1) (b := 1) rfl rfl ow km) (by rw [Nat.add_sub_cancel])) (gw ?_)
 refine S.r (Qt.mul (a := 2) rfl rfl km) (gw ?_)
 refine S.o (OpV.con (Pre := L1) (R := []) J139 rfl ((zir _)) (fun w hw => hrec (2 * p + 1) (cutN xs l (2 * p + 1)) A' c' (done ++ zaj l (cutN xs l (2 * p)) (2 * p)) L1 w okr (zbN hs) zcg hc' ow (zjl hw).sat (hro w _ (Ro.of_pre hw hR)).2 hJ1 (hst.next (zjl hw)) (by rw [List.length_append]; omega)) ?_)
 rintro v L2 hJ2
 rw [List.append_nil]
 refine gw ?_
 refine finQ.normal RVs.nil sr ?_
 exact hJ2
theorem zsj (fn : FuncId) (cp : Array Value) (hent : zae prog fn) (height : Nat) (hh : height ≤ 32) (J : Sd → List Assn → Prop) (W : World) (M : List Nat) (B : Nat) (hf : FndC prog fn cp height J W M B) : ∀ l, l ≤ height → BesC prog 139 fn cp height J W M B l
 | 0, hl => fun p xs A c done L0 w0 ho hs hx hc hn h0 hR hJ hst hB => by
  by_cases he : xs = []
  ·exact zjn fn cp hent height hh J W M B hf 0 p xs A c done L0 w0 ho hs hx hc hn h0 hR hJ hst hB he
  ·exact zos fn cp hent height hh J W M B hf p xs A c done L0 w0 ho hs hx hc hn h0 hR hJ hst hB he
 | l + 1, hl => fun p xs A c done L0 w0 ho hs hx hc hn h0 hR hJ hst hB => by
  by_cases he : xs = []
  ·exact zjn fn cp hent height hh J W M B hf (l + 1) p xs A c done L0 w0 ho hs hx hc hn h0 hR hJ hst hB he
  ·exact zot fn cp hent height hh J W M B hf l (zsj fn cp hent height hh J W M B hf l ow) p xs A c done L0 w0 ho hs hx hc hn h0 hR hJ hst hB he
theorem zjp (height : Nat) (hh : height ≤ 32) (A : OAd) (c : Nat) (xs : List Nat) (w0 : World) (hlow : ∀ x ∈ xs, x < 18446744073709551616) (hR : Ro w0 [] (SlA A (u64s xs))) : Calls prog 41 #[.int .i64 (height : Int), .slice A xs.length c] w0 (Ret w0 (.bool (decide (idxOk height xs)))) := by
 refine Calls.ret ?_
 refine co 48 [.tmp 4] func41 ?_
 refine gw ?_
 refine S.dec rfl rfl (Qt.lt (b := 0) rfl rfl) (fun h8 => gw ?_) (fun h8 => gw ?_)
 ·refine TC.ret (fR ?_)
  first
   | exact ⟨(congrArg Value.bool (decide_eq_false (fun h => by have h1 := h.1; have h2 := h.2.1; omega))).symm, rfl⟩
   | exact ⟨(congrArg Value.bool (decide_eq_false (fun h => by have h3 := (h.2.2 k ow).1; exact (fun h4 => h33 (Nat.div_eq_of_lt h4)) h3))).symm, rfl⟩
   | exact ⟨(congrArg Value.bool (decide_eq_false (fun h => by have h3 := (h.2.2 k ow).2 ow; omega))).symm, rfl⟩
   | exact ⟨(congrArg Value.bool (decide_eq_true ⟨by omega, by omega, by (obtain rfl : k = xs.length := by omega); exact hto⟩)).symm, rfl⟩
 ·refine S.qg rfl rfl rfl (Qt.dF (Qt.gt (b := 32) rfl rfl) ow) (gw ?_)
  refine S.decg rfl rfl rfl (Qt.lt (b := 1) rfl rfl) (fun h16 => gw ?_) (fun h16 => gw ?_)
  ·refine TC.ret (fR ?_)
   first
    | exact ⟨(congrArg Value.bool (decide_eq_false (fun h => by have h1 := h.1; have h2 := h.2.1; omega))).symm, rfl⟩
    | exact ⟨(congrArg Value.bool (decide_eq_false (fun h => by have h3 := (h.2.2 k ow).1; exact (fun h4 => h33 (Nat.div_eq_of_lt h4)) h3))).symm, rfl⟩
    | exact ⟨(congrArg Value.bool (decide_eq_false (fun h => by have h3 := (h.2.2 k ow).2 ow; omega))).symm, rfl⟩
    | exact ⟨(congrArg Value.bool (decide_eq_true ⟨by omega, by omega, by (obtain rfl : k = xs.length := by omega); exact hto⟩)).symm, rfl⟩
  ·refine S.decg rfl rfl rfl (Qt.gt (b := 256) rfl rfl) (fun h21 => gw ?_) (fun h21 => gw ?_)
   ·refine TC.ret (fR ?_)
    first
     | exact ⟨(congrArg Value.bool (decide_eq_false (fun h => by have h1 := h.1; have h2 := h.2.1; omega))).symm, rfl⟩
     | exact ⟨(congrArg Value.bool (decide_eq_false (fun h => by have h3 := (h.2.2 k ow).1; exact (fun h4 => h33 (Nat.div_eq_of_lt h4)) h3))).symm, rfl⟩
     | exact ⟨(congrArg Value.bool (decide_eq_false (fun h => by have h3 := (h.2.2 k ow).2 ow; omega))).symm, rfl⟩
     | exact ⟨(congrArg Value.bool (decide_eq_true ⟨by omega, by omega, by (obtain rfl : k = xs.length := by omega); exact hto⟩)).symm, rfl⟩
   ·refine TC.loop (γ := Nat) [26, 27, 28, 29, 5, 6, 30, 31, 32, 33, 34, 35, 36, 37, 38, 39, 40, 41, 42, 43, 44, 45, 46, 4, 47, 25] (fun k => [(25, .int .i64 (k : Int))]) (fun _ => _) (fun k => k ≤ xs.length ∧ zkC height xs k) (fun k => xs.length - k) (0)
     ⟨Nat.zero_le _, zmL height xs⟩ ⟨Out.refl _ _, ag⟩ sr ?_
    rintro k u ⟨hk, hto⟩
    refine gw ?_
    refine S.dec rfl rfl (Qt.lt rfl rfl) (fun h26 => gw ?_) (fun h26 => gw ?_)
    ·refine S.r (Qt.index uT cT rfl rfl ow (Has.ro hR) (by rw [zbi]; omega)) ?_
     refine S.r (Qt.load rfl (Ld.sl (v := .int .u64 ((xs.getD (k) 0 : Nat) : Int)) (Has.ro hR) oT (zbO ow))) (gw ?_)
     refine S.r (Qt.shrN rfl rfl (by have := hlow _ (zbk (k := k) 0 h26); simp only [kmax]; omega)) ?_
     refine S.dec rfl rfl (Qt.ne (b := 0) rfl rfl) (fun h33 => gw ?_) (fun h33 => gw ?_)
     ·refine TC.ret (fR ?_)
      first
       | exact ⟨(congrArg Value.bool (decide_eq_false (fun h => by have h1 := h.1; have h2 := h.2.1; omega))).symm, rfl⟩
       | exact ⟨(congrArg Value.bool (decide_eq_false (fun h => by have h3 := (h.2.2 k ow).1; exact (fun h4 => h33 (Nat.div_eq_of_lt h4)) h3))).symm, rfl⟩
       | exact ⟨(congrArg Value.bool (decide_eq_false (fun h => by have h3 := (h.2.2 k ow).2 ow; omega))).symm, rfl⟩
       | exact ⟨(congrArg Value.bool (decide_eq_true ⟨by omega, by omega, by (obtain rfl : k = xs.length := by omega); exact hto⟩)).symm, rfl⟩
     ·refine S.decg rfl rfl rfl (Qt.gt (b := 0) rfl rfl) (fun h36 => gw ?_) (fun h36 => gw ?_)
      ·refine S.qg rfl rfl rfl (Qt.sub (b := 1) rfl rfl ow km) ?_
       refine S.qg rfl rfl rfl (Qt.index uT cT rfl rfl ow (Has.ro hR) (by rw [zbi]; omega)) ?_
       refine S.qg rfl rfl rfl (Qt.load rfl (Ld.sl (v := .int .u64 ((xs.getD (k - 1) 0 : Nat) : Int)) (Has.ro hR) oT (zbO ow))) (gw ?_)
       refine S.decg rfl rfl rfl (Qt.ge rfl rfl) (fun h44 => gw ?_) (fun h44 => gw ?_)
       ·refine TC.ret (fR ?_)
        first
         | exact ⟨(congrArg Value.bool (decide_eq_false (fun h => by have h1 := h.1; have h2 := h.2.1; omega))).symm, rfl⟩
         | exact ⟨(congrArg Value.bool (decide_eq_false (fun h => by have h3 := (h.2.2 k ow).1; exact (fun h4 => h33 (Nat.div_eq_of_lt h4)) h3))).symm, rfl⟩
         | exact ⟨(congrArg Value.bool (decide_eq_false (fun h => by have h3 := (h.2.2 k ow).2 ow; omega))).symm, rfl⟩
         | exact ⟨(congrArg Value.bool (decide_eq_true ⟨by omega, by omega, by (obtain rfl : k = xs.length := by omega); exact hto⟩)).symm, rfl⟩
       ·refine ⟨k + 1, ?_, ?_, ⟨?_, ag⟩, sr⟩
        ·exact ⟨by show _ ≤ _; omega, zhH hto (zhI (Decidable.not_not.1 h33)) (fun hk0 => by omega)⟩
        ·show _ < _; dsimp only; omega
        exact outs
      ·refine ⟨k + 1, ?_, ?_, ⟨?_, ag⟩, sr⟩
       ·exact ⟨by show _ ≤ _; omega, zhH hto (zhI (Decidable.not_not.1 h33)) (fun hk0 => by omega)⟩
       ·show _ < _; dsimp only; omega
       exact outs
    ·refine TC.exit (TC.seq (gw ?_))
     refine TC.ret (fR ?_)
     first
      | exact ⟨(congrArg Value.bool (decide_eq_false (fun h => by have h1 := h.1; have h2 := h.2.1; omega))).symm, rfl⟩
      | exact ⟨(congrArg Value.bool (decide_eq_false (fun h => by have h3 := (h.2.2 k ow).1; exact (fun h4 => h33 (Nat.div_eq_of_lt h4)) h3))).symm, rfl⟩
      | exact ⟨(congrArg Value.bool (decide_eq_false (fun h => by have h3 := (h.2.2 k ow).2 ow; omega))).symm, rfl⟩
      | exact ⟨(congrArg Value.bool (decide_eq_true ⟨by omega, by omega, by (obtain rfl : k = xs.length := by omega); exact hto⟩)).symm, rfl⟩
theorem zhL (z : Int) (hz : z < 0 ∨ 32 < z) (A : OAd) (c : Nat) (xs : List Nat) (w0 : World) : Calls prog 41 #[.int .i64 z, .slice A xs.length c] w0 (Ret w0 (.bool false)) := by
 refine Calls.ret ?_
 refine co 48 [.tmp 4] func41 ?_
 refine gw ?_
 refine S.dec rfl rfl (Qt.lti rfl rfl) (fun h8 => gw ?_) (fun h8 => gw ?_)
 ·refine TC.ret (fR ?_)
  exact ⟨rfl, rfl⟩
 ·refine S.qg rfl rfl rfl (Qt.dT (Qt.gti rfl rfl) ow) (gw ?_)
  refine TC.ret (fR ?_)
  exact ⟨rfl, rfl⟩
theorem zb6 (height : Nat) (hh : height ≤ 32) (A : OAd) (c : Nat) (xs : List Nat) (hi : idxOk height xs) (w0 : World) (hlow : ∀ x ∈ xs, x < 18446744073709551616) (hR : Ro w0 [] (SlA A (u64s xs))) : Calls prog 41 #[.int .i64 (height : Int), .slice A xs.length c] w0 (Ret w0 (.bool true)) := by
 have h := zjp height hh A c xs w0 hlow hR
 rwa [decide_eq_true hi] at h
theorem zck (height : Nat) (hh : height ≤ 32) (A : OAd) (c : Nat) (xs : List Nat) (hi : ¬ idxOk height xs) (w0 : World) (hlow : ∀ x ∈ xs, x < 18446744073709551616) (hR : Ro w0 [] (SlA A (u64s xs))) : Calls prog 41 #[.int .i64 (height : Int), .slice A xs.length c] w0 (Ret w0 (.bool false)) := by
 have h := zjp height hh A c xs w0 hlow hR
 rwa [decide_eq_false hi] at h
theorem zqK (E : Nat → H32) (tb mb height : Nat) (ms : Tm) (hh : height ≤ 32) (tv eb ob : Nat) (done : Sd) (hl : done.length ≤ 16384) (O : OAd) (d : Nat) (l p : Nat) (ho : okAt height (l, p)) (w0 : World) (hL : Sat w0 [Blk ob 33 [.slice O done.length d], OwnA 49 32 O (done).length d (hcs ((done).map (fun a => getT E ms a)))]) (hB : Ro w0 (fps [Blk ob 33 [.slice O done.length d], OwnA 49 32 O (done).length d (hcs ((done).map (fun a => getT E ms a)))]) (Blk tb 243 (zar E height mb))) (hM : Ro w0 (fps [Blk ob 33 [.slice O done.length d], OwnA 49 32 O (done).length d (hcs ((done).map (fun a => getT E ms a)))]) (MapA mb zau hv (ms))) (hV : Ro w0 (fps [Blk ob 33 [.slice O done.length d], OwnA 49 32 O (done).length d (hcs ((done).map (fun a => getT E ms a)))]) (Blk tv 155 [.pointer (some ⟨tb, 0, none⟩)])) :
  Calls prog 140 #[.int .i64 (l : Int), .int .u64 (p : Int), .pointer (some ⟨tv, 0, none⟩), .pointer (some ⟨eb, 0, none⟩), .pointer (some ⟨ob, 0, none⟩)] w0 (Post w0 (fps [Blk ob 33 [.slice O done.length d], OwnA 49 32 O (done).length d (hcs ((done).map (fun a => getT E ms a)))]) fun v L => ∃ O2 d2, L = [Blk ob 33 [.slice O2 (done ++ [(l, p)]).length d2], OwnA 49 32 O2 (done ++ [(l, p)]).length d2 (hcs ((done ++ [(l, p)]).map (fun a => getT E ms a)))]) := by
 refine cof (L := [Blk ob 33 [.slice O done.length d], OwnA 49 32 O (done).length d (hcs ((done).map (fun a => getT E ms a)))]) 23 [] func140 hL ?_
 refine gw ?_
 refine S.c0 J141 (fun w hw => Calls.ret (zeU E tb mb height ms l p ho hh w (Rd.ro hB w hw) (Rd.ro hM w hw))) (gw ?_)
 intro b7
 refine S.opN rfl (OpV.storeV0 (v := hv (_)) rfl rfl (zab ce49) (zai _) (zaf _) ?_)
 refine gw ?_
 refine S.o (OpV.slice1 (bytes := 32) (v := hv (getT E ms (l, p))) uT elem49 (by decide) rfl (zaf _) (fun g21 => ?_))
 refine S.o (OpV.app3 (bytes := 32) (news := hvl (getT E ms (l, p))) uT elem49 rfl rfl (Has.blk (cs := hvl (getT E ms (l, p))) hz0) (by rw [zag]) (zaw _) (by simp only [maxLen]; omega) ow (fun O2 d2 => ?_))
 refine S.opN rfl (OpV.storeV2 rfl cw (by exact ce33) (by rfl) (by rfl) ?_)
 refine gw ?_
 refine finQ.normal RVs.nil (Sub.trans (sk (sk (sd (sd sn0)))) (Sub.trans (sk (Sub.trans (sk sr) (Sub.of_perm pm2))) (Sub.of_perm pm2))) ?_
 refine ⟨O2, d2, ?_⟩
 simp only [zaJ, List.map_append, zbg, List.map_cons, List.map_nil, za7, zen, List.append_nil]
 rfl
theorem zqL (nb m l p : Nat) (hm : m ≤ 16384) (w0 : World) (hL : Sat w0 [Blk nb 3 [.int .i64 ((m : Nat) : Int)]]) :
  Calls prog 213 #[.int .i64 (l : Int), .int .u64 (p : Int), .pointer (some ⟨nb, 0, none⟩)] w0 (Post w0 (fps [Blk nb 3 [.int .i64 ((m : Nat) : Int)]]) fun v L => L = [Blk nb 3 [.int .i64 ((m + 1 : Nat) : Int)]]) := by
 refine cof (L := [Blk nb 3 [.int .i64 ((m : Nat) : Int)]]) 7 [] func213 hL ?_
 refine gw ?_
 refine S.opN rfl (OpV.storeV0 rfl cw (by exact ce3) (by rfl) (by rfl) ?_)
 refine gw ?_
 refine finQ.normal RVs.nil sr ?_
 rfl
theorem zgA (E : Nat → H32) (tb mb height : Nat) (ms : Tm) (hh : height ≤ 32) (A : OAd) (c : Nat) (xs : List Nat) (hc : xs.length ≤ c) (hi : idxOk height xs) (w0 : World) (hB : Ro w0 [] (Blk tb 243 (zar E height mb))) (hM : Ro w0 [] (MapA mb zau hv (ms))) (hlow : ∀ x ∈ xs, x < 18446744073709551616) (hR : Ro w0 [] (SlA A (u64s xs))) :
  Calls prog 83 #[.pointer (some ⟨tb, 0, none⟩), .slice A xs.length c] w0 (Post w0 [] fun v L => ∃ O d, v = .tuple #[.slice O (zaj height xs 0).length d, .nilIface] ∧ L = [OwnA 49 32 O (zaj height xs 0).length d (hcs ((zaj height xs 0).map (fun a => getT E ms a)))]) := by
 refine co 28 [.tmp 4, .tmp 5] func83 ?_
 have hsp : (zaj height xs 0).length ≤ 8193 := by have h1 := zdO height xs 0; have h2 : xs.length * height ≤ 256 * 32 := Nat.mul_le_mul hi.2.1 hh; omega
 refine TC.ownNil 49 32 (gw ?_)
 intro b2
 refine gw ?_
 refine S.c0 J80 (fun w hw => zbc E tb mb height w (Rd.ro hB w hw)) (gw ?_)
 refine S.c0 J41 (fun w hw => zb6 height hh A c xs hi w hlow (Rd.ro hR w hw)) (gw ?_)
 intro b6
 refine gw ?_
 intro b7
 refine gw ?_
 refine S.c0 J80 (fun w hw => zbc E tb mb height w (Rd.ro hB w hw)) ?_
 refine S.r (Qt.makeFuncL (fs := []) (cs := [.pointer (some ⟨b2, 0, none⟩), .pointer (some ⟨b7, 0, none⟩), .pointer (some ⟨b6, 0, none⟩)]) rfl rfl) ?_
 refine S.o (OpV.con (Pre := [Blk b6 33 [.slice none ([] : Sd).length 0], OwnA 49 32 none (([] : Sd)).length 0 (hcs ((([] : Sd)).map (fun a => getT E ms a)))]) (R := _) J139 rfl (pm1.trans (pc pm2)) (fun w hw => zsj 140 #[.pointer (some ⟨b2, 0, none⟩), .pointer (some ⟨b7, 0, none⟩), .pointer (some ⟨b6, 0, none⟩)] J140 height hh (fun done L => ∃ O d, L = [Blk b6 33 [.slice O done.length d], OwnA 49 32 O (done).length d (hcs ((done).map (fun a => getT E ms a)))]) w (fps [Blk b6 33 [.slice none ([] : Sd).length 0], OwnA 49 32 none (([] : Sd)).length 0 (hcs ((([] : Sd)).map (fun a => getT E ms a)))]) (zaj height xs 0).length (fun a done L w' ho hlt hJ hst => by obtain ⟨O, d, rfl⟩ := hJ; exact (zqK E tb mb height ms hh b2 b7 b6 done ow O d a.1 a.2 ho w' hst.sat (Ro.of_pre (R := []) (by rw [List.append_nil]; exact hst) (Ro.of_pre hw hB)) (Ro.of_pre (R := []) (by rw [List.append_nil]; exact hst) (Ro.of_pre hw hM)) (Ro.of_pre (R := []) (by rw [List.append_nil]; exact hst) (Ro.of_rest hw (List.mem_of_getElem? (i := 1) rfl)))).mono fun e w'' ⟨v, L', q1, q2, O2, d2, q3⟩ => ⟨v, L', q1, q2, O2, d2, q3⟩) height (Nat.le_refl _) 0 xs A c [] _ w (zek height) hi.rise hi.root hc hi.2.1 hw.sat.left (Ro.of_pre hw hR) ⟨none, 0, rfl⟩ (St.start hw.sat.left) (by rw [List.length_nil, Nat.zero_add]; exact Nat.le_refl _)) ?_)
 rintro v L' ⟨O, d, rfl⟩
 refine gw ?_
 refine TC.ret (finQ.ret rv (Sub.trans (sk (sd (sd (sd sn0)))) (Sub.trans (sk sr) (Sub.of_perm pm1))) ?_)
 exact ⟨O, d, rfl, rfl⟩
theorem zrP (E : Nat → H32) (tb mb height : Nat) (ms : Tm) (hh : height ≤ 32) (A : OAd) (c : Nat) (xs : List Nat) (hi : ¬ idxOk height xs) (w0 : World) (hB : Ro w0 [] (Blk tb 243 (zar E height mb)))  (hlow : ∀ x ∈ xs, x < 18446744073709551616) (hR : Ro w0 [] (SlA A (u64s xs))) :
  Calls prog 83 #[.pointer (some ⟨tb, 0, none⟩), .slice A xs.length c] w0 (Post w0 [] fun v L => v = .tuple #[.slice none 0 0, .iface 73 (.int .i64 1)] ∧ L = []) := by
 refine co 28 [.tmp 4, .tmp 5] func83 ?_
 refine gw ?_
 intro b2
 refine gw ?_
 refine S.c0 J80 (fun w hw => zbc E tb mb height w (Rd.ro hB w hw)) (gw ?_)
 refine S.c0 J41 (fun w hw => zck height hh A c xs hi w hlow (Rd.ro hR w hw)) (gw ?_)
 refine TC.ret (fR ?_)
 exact ⟨rfl, rfl⟩
theorem zdn (E : Nat → H32) (tb mb height : Nat) (ms : Tm) (hh : height ≤ 32) (A : OAd) (c : Nat) (xs : List Nat) (hi : idxOk height xs) (w0 : World) (hB : Ro w0 [] (Blk tb 243 (zar E height mb))) (hM : Ro w0 [] (MapA mb zau hv (ms))) (hlow : ∀ x ∈ xs, x < 18446744073709551616) (hR : Ro w0 [] (SlA A (u64s xs))) :
  Calls prog 82 #[.pointer (some ⟨tb, 0, none⟩), .slice A xs.length c] w0 (Post w0 [] fun v L => ∃ O d, v = .tuple #[.slice O xs.length d, .nilIface] ∧ L = [OwnA 49 32 O xs.length d (hcs (xs.map (fun x => getT E ms (0, x))))]) := by
 refine co 43 [.tmp 4, .tmp 5] func82 ?_
 have hn := hi.2.1
 refine TC.ownNil 49 32 (gw ?_)
 refine S.c0 J80 (fun w hw => zbc E tb mb height w (Rd.ro hB w hw)) (gw ?_)
 refine S.c0 J41 (fun w hw => zb6 height hh A c xs hi w hlow (Rd.ro hR w hw)) (gw ?_)
 refine TC.loop (γ := Nat × OAd × Nat) [25, 26, 27, 8, 29, 30, 31, 28, 32, 33, 9, 10, 34, 35, 36, 4, 5, 37, 38, 39, 40, 6, 41, 24] (fun g => [(24, .int .i64 ((g.1 : Nat) : Int)), (6, .slice g.2.1 g.1 g.2.2)]) (fun g => [OwnA 49 32 g.2.1 g.1 g.2.2 (hcs ((xs.take g.1).map (fun x => getT E ms (0, x))))]) (fun g => g.1 ≤ xs.length) (fun g => xs.length - g.1) ((0, none, 0))
  (Nat.zero_le _) ⟨Out.refl _ _, ag⟩ sr ?_
 rintro ⟨k, O, d⟩ u hk
 dsimp only at hk
 refine gw ?_
 refine S.dec rfl rfl (Qt.lt rfl rfl) (fun h25 => gw ?_) (fun h25 => gw ?_)
 ·refine S.r (Qt.index uT cT rfl rfl ow (Has.ro hR) (by rw [zbi]; omega)) ?_
  refine S.r (Qt.load rfl (Ld.sl (v := .int .u64 ((xs.getD (k) 0 : Nat) : Int)) (Has.ro hR) oT (zbO ow))) (gw ?_)
  refine S.c0 J138 (fun w hw => zrO E tb mb height ms (xs.getD k 0) hh (hi.low _ (zbk 0 h25)) w (Rd.ro hB w hw) (Rd.ro hM w hw)) (gw ?_)
  intro b9
  refine S.opN rfl (OpV.storeV0 (v := hv (_)) rfl rfl (zab ce49) (zai _) (zaf _) ?_)
  refine gw ?_
  refine S.o (OpV.slice1 (bytes := 32) (v := hv (getT E ms (0, xs.getD k 0))) uT elem49 (by decide) rfl (zaf _) (fun g39 => ?_))
  refine S.o (OpV.app2 (bytes := 32) (news := hvl (getT E ms (0, xs.getD k 0))) uT elem49 rfl rfl (Has.blk (cs := hvl (getT E ms (0, xs.getD k 0))) hz0) (by rw [zag]) (zaw _) (by simp only [maxLen]; omega) ow (fun O' d' => ?_))
  refine gw ?_
  refine ⟨(k + 1, O', d'), ?_, ?_, ⟨?_, ag⟩, (by dsimp only; rw [← zqH (fun x => getT E ms (0, x)) 0 h25]; exact Sub.trans (sk (sd (sd sn0))) (Sub.trans (sk sr) (Sub.of_perm pm2)))⟩
  ·show _ ≤ _; dsimp only; omega
  ·show _ < _; dsimp only; omega
  exact outs
 ·refine TC.exit (TC.seq (gw ?_))
  refine TC.ret (finQ.ret rv sr ?_)
  obtain rfl : k = xs.length := by omega
  exact ⟨O, d, rfl, by rw [List.take_length]⟩
theorem zdQ (height : Nat) (hh : height ≤ 32) (A : OAd) (c : Nat) (xs : List Nat) (hc : xs.length ≤ c) (hi : idxOk height xs) (w0 : World) (hlow : ∀ x ∈ xs, x < 18446744073709551616) (hR : Ro w0 [] (SlA A (u64s xs))) :
  Calls prog 205 #[.int .i64 (height : Int), .slice A xs.length c] w0 (Post w0 [] fun v L => v = .tuple #[.int .i64 (((zaj height xs 0).length : Nat) : Int), .nilIface] ∧ L = []) := by
 refine co 17 [.tmp 4, .tmp 5] func205 ?_
 have hsp : (zaj height xs 0).length ≤ 8193 := by have h1 := zdO height xs 0; have h2 : xs.length * height ≤ 256 * 32 := Nat.mul_le_mul hi.2.1 hh; omega
 refine gw ?_
 refine S.c0 J41 (fun w hw => zb6 height hh A c xs hi w hlow (Rd.ro hR w hw)) (gw ?_)
 intro b6
 refine S.opN rfl (OpV.storeV0 rfl cw (by exact ce3) (by rfl) (by rfl) ?_)
 refine gw ?_
 refine S.r (Qt.makeFuncL (fs := []) (cs := [.pointer (some ⟨b6, 0, none⟩)]) rfl rfl) ?_
 refine S.o (OpV.con (Pre := [Blk b6 3 [.int .i64 ((([] : Sd).length : Nat) : Int)]]) (R := _) J139 rfl pr (fun w hw => zsj 213 #[.pointer (some ⟨b6, 0, none⟩)] J213 height hh (fun done L => L = [Blk b6 3 [.int .i64 ((done.length : Nat) : Int)]]) w (fps [Blk b6 3 [.int .i64 ((([] : Sd).length : Nat) : Int)]]) (zaj height xs 0).length (fun a done L w' ho hlt hJ hst => by subst hJ; exact (zqL b6 done.length a.1 a.2 ow w' hst.sat).mono fun e w'' ⟨v, L', q1, q2, q3⟩ => ⟨v, L', q1, q2, by show L' = [Blk b6 3 [.int .i64 (((done ++ [a]).length : Nat) : Int)]]; rw [zaJ]; exact q3⟩) height (Nat.le_refl _) 0 xs A c [] _ w (zek height) hi.rise hi.root hc hi.2.1 hw.sat.left (Ro.of_pre hw hR) rfl (St.start hw.sat.left) (by rw [List.length_nil, Nat.zero_add]; exact Nat.le_refl _)) ?_)
 rintro v L' rfl
 refine gw ?_
 refine TC.ret (fR ?_)
 exact ⟨rfl, rfl⟩
theorem zhk (z : Int) (A : OAd) (c : Nat) (xs : List Nat) (w0 : World) (hr : ∀ w, Ro w [] (SlA A (u64s xs)) → Calls prog 41 #[.int .i64 z, .slice A xs.length c] w (Ret w (.bool false))) (hR : Ro w0 [] (SlA A (u64s xs))) :
  Calls prog 205 #[.int .i64 z, .slice A xs.length c] w0 (Post w0 [] fun v L => v = .tuple #[.int .i64 0, .iface 73 (.int .i64 1)] ∧ L = []) := by
 refine co 17 [.tmp 4, .tmp 5] func205 ?_
 refine gw ?_
 refine S.c0 J41 (fun w hw => hr w (Rd.ro hR w hw)) (gw ?_)
 refine TC.ret (fR ?_)
 exact ⟨rfl, rfl⟩
end Go.Proofs.YtgdjcmehlhebdaaGreatDoor
