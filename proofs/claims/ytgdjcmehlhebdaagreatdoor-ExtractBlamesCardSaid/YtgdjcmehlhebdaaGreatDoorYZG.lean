/- Walks: orders, which are right, which fit -/
import Derived.Test.YtgdjcmehlhebdaaGreatDoorY8
import Derived.Test.YtgdjcmehlhebdaaGreatDoorXQ
set_option maxHeartbeats 25600000
namespace Go.Proofs.YtgdjcmehlhebdaaGreatDoor
open _root_.Go.Proofs.Tryz
open Go.E
set_option maxRecDepth 4000
theorem zgQ {o : Order} (h : zbe o) : o.xs.length ≤ 256 := by
 rcases h with ⟨_, _, a, _⟩ | ⟨_, _, a, _⟩ | ⟨_, a, _⟩
 ·exact a.2.1
 ·exact a.2.1
 ·omega
theorem zma (e : Nat) (he : e < 18446744073709551616) (w0 : World) : Calls prog 159 #[.int .u64 ((0 : Nat) : Int), .int .u64 (e : Int)] w0 (Ret w0 (.bool (decide (epOk e)))) := by
 refine Calls.ret ?_
 refine co 15 [.tmp 4] func159 ?_
 refine gw ?_
 refine S.r (Qt.dT (Qt.lt (b := 4294967296) rfl rfl) (by decide)) (gw ?_)
 refine S.decg rfl rfl rfl (Qt.ge (b := 1) rfl rfl) (fun h9 => gw ?_) (fun h9 => gw ?_)
 ·refine S.decg rfl rfl rfl (Qt.lt (b := 18446744073709551615) rfl rfl) (fun h13 => gw ?_) (fun h13 => gw ?_)
  ·refine TC.ret (fR ?_)
   exact ⟨by rw [decide_eq_true (p := epOk e) ⟨h9, h13⟩]; rfl, rfl⟩
  ·refine TC.ret (fR ?_)
   exact ⟨by rw [decide_eq_false (p := epOk e) (fun h => by obtain ⟨a, b⟩ := h; omega)]; rfl, rfl⟩
 ·refine TC.ret (fR ?_)
  exact ⟨by rw [decide_eq_false (p := epOk e) (fun h => by obtain ⟨a, b⟩ := h; omega)]; rfl, rfl⟩
theorem zhT (x : Sealed) (ob : Nat) (A : OAd) (c : Nat) (B : OAd) (d : Nat) (o : Order) (h0 : 0 < o.ss.length) (w0 : World) (hO : Ro w0 [] (Blk ob 58 (zaX A c B d o))) (hS : Ro w0 [] (SlA B (o.ss.flatMap zaD))) :
  Calls prog 158 #[.agg (zaD x).toArray, .pointer (some ⟨ob, 0, none⟩)] w0 (Post w0 [] fun v L => v = .bool (oddS o.ss x) ∧ L = []) := by
 refine co 18 [.tmp 3] func158 ?_
 refine gw ?_
 intro b2
 refine gw ?_
 refine dw ([], []) (gw ?_)
 by_cases hep : epOk x.ep
 ·refine D.c0 2 rfl J159 (fun w hw => (by have h := zma x.ep x.lt w; rw [decide_eq_true hep] at h; exact h)) (gw ?_)
  refine D.gY 9 rfl rfl (Qt.index (i := 0) uT cT rfl rfl (h0) (Has.ro hS) (by rw [zdV]; omega)) ?_
  refine D.gY 10 rfl rfl (Qt.fieldS uT rfl ce40 rfl (Has.ro hS) (by rw [zdV]; omega)) ?_
  refine D.gY 11 rfl rfl (Qt.load rfl (Ld.sl (v := .int .u64 (((o.ss.getD 0 zb7).ep) : Int)) (Has.ro hS) oT (zf1 h0 rfl 0 _ rfl))) ?_
  refine D.decgX (k := 12) rfl (by kernel_rfl) (by kernel_rfl) (by kernel_rfl) rfl rfl rfl (Qt.ne rfl rfl) (fun h16 => gw ?_) (fun h16 => gw ?_)
  ·refine D.fi ?_
   refine TC.ret (fR ?_)
   exact ⟨by rw [oddS, decide_eq_true (.inr h16)]; rfl, rfl⟩
  ·refine D.fi ?_
   refine TC.ret (fR ?_)
   exact ⟨by rw [oddS, decide_eq_false (fun h => h.elim (fun q => q hep) h16)]; rfl, rfl⟩
 ·refine D.c0 2 rfl J159 (fun w hw => (by have h := zma x.ep x.lt w; rw [decide_eq_false hep] at h; exact h)) (gw ?_)
  refine D.fi ?_
  refine TC.ret (fR ?_)
  exact ⟨by rw [oddS, decide_eq_true (.inl hep)]; rfl, rfl⟩
theorem zjN (fn : FuncId) (cp : Array Value) (q : Sealed → Bool) (hent : zae prog fn) (B : OAd) (d : Nat) (ss : List Sealed) (hn : ss.length ≤ 65536)  (w0 : World) (hS : Ro w0 [] (SlA B (ss.flatMap zaD))) (hf : ∀ x ∈ ss, ∀ w, St w0 [] [] w → Calls prog fn ((([.agg (zaD x).toArray] : List Value) ++ cp.toList).toArray) w (Ret w (.bool (q x)))) :
    Calls prog 193 #[.slice B ss.length d, .func (.func fn) #[] cp] w0 (Post w0 [] fun v L => ∃ z : Int, v = .int .i64 z ∧ L = [] ∧ (z < 0 → ∀ s ∈ ss, q s = false) ∧ (0 ≤ z → ∃ s ∈ ss, q s = true)) := by
  refine Calls.of (L := []) (n := 19) (rs := [.tmp 4]) func193 rfl rfl rfl (Nat.le_of_ble_eq_true rfl) (Sat.nil _) ?_
  refine TC.seq ?_
  refine TC.region ?_
  refine S.as ?_
  refine S.nil ?_
  refine TC.seq ?_
  refine TC.seq ?_
  refine TC.region ?_
  refine S.mv ?_
  refine S.r (Qt.len_slice uT rfl) ?_
  refine S.mv ?_
  refine S.nil ?_
  refine TC.block ?_
  refine TC.loop (γ := Nat) [9, 10, 5, 11, 12, 13, 14, 15, 16, 17, 4, 18, 8] (fun k => [(8, .int .i64 (k : Int))]) (fun _ => _) (fun k => k ≤ ss.length ∧ ∀ j, j < k → q (ss.getD j zb7) = false) (fun k => ss.length - k) (0)
    ⟨Nat.zero_le _, fun j h => absurd h (Nat.not_lt_zero _)⟩ ⟨Out.refl _ _, (List.forall_mem_cons.2 ⟨rfl, (fun _ h => nomatch h)⟩)⟩ sr ?_
  rintro k u ⟨hk, hq⟩
  refine TC.seq ?_
  refine TC.region ?_
  refine S.dec rfl rfl (Qt.lt rfl rfl) (fun h9 => ?_) (fun h9 => ?_)
  · refine S.nil ?_
    refine TC.seq ?_
    refine S.if_t rfl ?_
    refine TC.skip ?_
    refine TC.seq ?_
    refine TC.block ?_
    refine TC.seq ?_
    refine TC.region ?_
    refine S.mv ?_
    refine S.as ?_
    refine S.nil ?_
    refine TC.seq ?_
    refine TC.region ?_
    refine S.mv ?_
    refine S.mv ?_
    refine S.mv ?_
    refine S.r (Qt.index uT cT rfl rfl ow (Has.ro hS) (by rw [zdV]; omega)) ?_
    refine S.r (Qt.load rfl (Ld.slr (vs := zaD (ss.getD k zb7)) (Has.ro hS) rT (by rw [zam]; exact ce136) (by rw [zam]; decide) (zf1 h9 rfl))) ?_
    refine S.o (OpV.con0 hent rfl (fun w hw => hf _ (ztj h9) w hw) ?_)
    refine S.nil ?_
    refine TC.ifb rfl (fun b16 => ?_) (fun b16 => ?_)
    · refine TC.seq ?_
      refine TC.region ?_
      refine S.mv ?_
      refine S.as ?_
      refine S.nil ?_
      refine TC.ret (fR ?_)
      exact ⟨_, rfl, rfl, fun h => by omega, fun _ => ⟨_, ztj h9, b16⟩⟩
    · refine TC.skip ?_
      refine TC.region ?_
      refine S.r (Qt.add (b := 1) rfl rfl km) ?_
      refine S.mv ?_
      refine S.nil ?_
      refine ⟨k + 1, ?_, ?_, ⟨?_, (List.forall_mem_cons.2 ⟨rfl, (fun _ h => nomatch h)⟩)⟩, sr⟩
      · exact ⟨by show _ ≤ _; omega, fun j hj => (Nat.lt_or_ge j k).elim (hq j) (fun h => by (obtain rfl : j = k := by omega); exact b16)⟩
      · show _ < _; dsimp only; omega
      repeat (first | exact Out.refl _ _ | refine Out.put rfl ?_ | refine Out.puts rfl ?_ | refine Out.scr ?_ | refine Out.scr' rfl ?_)
  · refine S.nil ?_
    refine TC.seq ?_
    refine S.if_f rfl ?_
    refine TC.exit ?_
    refine TC.seq ?_
    refine TC.region ?_
    refine S.as ?_
    refine S.nil ?_
    refine TC.ret (fR ?_)
    refine ⟨_, rfl, rfl, fun _ s hs => ?_, fun h => absurd h (by decide)⟩
    obtain ⟨j, hj, rfl⟩ := List.mem_iff_getElem.1 hs
    have := hq j ow
    simpa [List.getD, hj] using this
theorem zrf (fn : FuncId) (cp : Array Value) (q : Sealed → Bool) (hent : zae prog fn) (B : OAd) (d : Nat) (ss : List Sealed) (hn : ss.length ≤ 65536) (hq : ∃ s ∈ ss, q s = true) (w0 : World) (hS : Ro w0 [] (SlA B (ss.flatMap zaD))) (hf : ∀ x ∈ ss, ∀ w, St w0 [] [] w → Calls prog fn ((([.agg (zaD x).toArray] : List Value) ++ cp.toList).toArray) w (Ret w (.bool (q x)))) : Calls prog 160 #[.slice B ss.length d, .func (.func fn) #[] cp] w0 (Ret w0 (.bool true)) := by
 refine Calls.ret ?_
 refine co 9 [.tmp 4] func160 ?_
 refine gw ?_
 refine S.cn J193 (fun w hw => zjN fn cp q hent B d ss hn w (Rd.ro hS w hw) (fun x hx w1 s1 => hf x hx w1 ((hw.sub sn).after0 s1))) ?_
 rintro v L' ⟨z, rfl, rfl, hz1, hz2⟩
 refine S.r (Qt.dT (Qt.gei rfl rfl) (Int.not_lt.1 (fun h => by obtain ⟨s, h1, h2⟩ := hq; rw [hz1 h s h1] at h2; cases h2))) (gw ?_)
 refine TC.ret (fR ?_)
 exact ⟨rfl, rfl⟩
theorem zrg (fn : FuncId) (cp : Array Value) (q : Sealed → Bool) (hent : zae prog fn) (B : OAd) (d : Nat) (ss : List Sealed) (hn : ss.length ≤ 65536) (hq : ∀ s ∈ ss, q s = false) (w0 : World) (hS : Ro w0 [] (SlA B (ss.flatMap zaD))) (hf : ∀ x ∈ ss, ∀ w, St w0 [] [] w → Calls prog fn ((([.agg (zaD x).toArray] : List Value) ++ cp.toList).toArray) w (Ret w (.bool (q x)))) : Calls prog 160 #[.slice B ss.length d, .func (.func fn) #[] cp] w0 (Ret w0 (.bool false)) := by
 refine Calls.ret ?_
 refine co 9 [.tmp 4] func160 ?_
 refine gw ?_
 refine S.cn J193 (fun w hw => zjN fn cp q hent B d ss hn w (Rd.ro hS w hw) (fun x hx w1 s1 => hf x hx w1 ((hw.sub sn).after0 s1))) ?_
 rintro v L' ⟨z, rfl, rfl, hz1, hz2⟩
 refine S.r (Qt.dF (Qt.gei rfl rfl) (fun h => by obtain ⟨s, h1, h2⟩ := hz2 h; rw [hq s h1] at h2; cases h2)) (gw ?_)
 refine TC.ret (fR ?_)
 exact ⟨rfl, rfl⟩
theorem zcK (A : OAd) (c : Nat) (B : OAd) (d : Nat) (o : Order) (hss : o.ss.length ≤ 65536) (hxx : o.xs.length ≤ 65536) (w0 : World) (hlow : ∀ x ∈ o.xs, x < 18446744073709551616) (hR : Ro w0 [] (SlA A (u64s o.xs))) (hS : Ro w0 [] (SlA B (o.ss.flatMap zaD))) : Calls prog 99 #[.agg (zaX A c B d o).toArray] w0 (Ret w0 (.bool (decide (zbe o)))) := by
 refine Calls.ret ?_
 refine co 69 [.tmp 2] func99 ?_
 refine gw ?_
 intro b1
 refine gw ?_
 refine S.r (Qt.makeFuncL (fs := []) (cs := [.pointer (some ⟨b1, 0, none⟩)]) rfl rfl) (gw ?_)
 refine S.dec rfl rfl (Qt.eqi rfl rfl) (fun h8 => gw ?_) (fun h8 => gw ?_)
 ·refine S.dec rfl rfl (Qt.eq (b := 0) rfl rfl) (fun h11 => gw ?_) (fun h11 => gw ?_)
  ·by_cases hi : idxOk 32 o.xs
   ·refine S.g0 J41 (fun w hw => zb6 32 (by decide) A c o.xs hi w hlow (Rd.ro hR w hw)) (gw ?_)
    refine S.decg rfl rfl rfl (Qt.eq rfl rfl) (fun h24 => gw ?_) (fun h24 => gw ?_)
    ·by_cases hany : ∃ s ∈ o.ss, oddS o.ss s = true
     ·refine S.g0 J160 (fun w hw => zrf 158 #[.pointer (some ⟨b1, 0, none⟩)] (oddS o.ss) J158 B d o.ss hss hany w (Rd.ro hS w hw) (fun x hx w1 s1 => Calls.ret (zhT x b1 A c B d o (by have := List.length_pos_of_mem hx; exact this) w1 ((Rd.at 0 rfl w hw).go s1 (fun b hb => by cases hb)) ((Rd.ro hS w hw).go s1 (fun b hb => by cases hb))))) (gw ?_)
      refine TC.ret (fR ?_)
      exact ⟨congrArg Value.bool (decide_eq_false (p := zbe o) (zoZ h8 hany)).symm, rfl⟩
     ·refine S.g0 J160 (fun w hw => zrg 158 #[.pointer (some ⟨b1, 0, none⟩)] (oddS o.ss) J158 B d o.ss hss (fun s hs => Bool.eq_false_iff.2 (fun e => hany ⟨s, hs, e⟩)) w (Rd.ro hS w hw) (fun x hx w1 s1 => Calls.ret (zhT x b1 A c B d o (by have := List.length_pos_of_mem hx; exact this) w1 ((Rd.at 0 rfl w hw).go s1 (fun b hb => by cases hb)) ((Rd.ro hS w hw).go s1 (fun b hb => by cases hb))))) (gw ?_)
      refine TC.ret (fR ?_)
      exact ⟨congrArg Value.bool (decide_eq_true (p := zbe o) (zsF h8 h11 hi h24 (fun s hs => Bool.eq_false_iff.2 (fun e => hany ⟨s, hs, e⟩)))).symm, rfl⟩
    ·refine TC.ret (fR ?_)
     refine ⟨congrArg Value.bool (decide_eq_false (p := zbe o) fun h => ?_).symm, rfl⟩
     rcases h with ⟨a1, a2, a3, a4, a5⟩ | ⟨a1, a2, a3, a4⟩ | ⟨a1, a2, a3, a4⟩ <;> first | omega | exact absurd a3 hi
   ·refine S.g0 J41 (fun w hw => zck 32 (by decide) A c o.xs hi w hlow (Rd.ro hR w hw)) (gw ?_)
    refine TC.ret (fR ?_)
    refine ⟨congrArg Value.bool (decide_eq_false (p := zbe o) fun h => ?_).symm, rfl⟩
    rcases h with ⟨a1, a2, a3, a4, a5⟩ | ⟨a1, a2, a3, a4⟩ | ⟨a1, a2, a3, a4⟩ <;> first | omega | exact absurd a3 hi
  ·refine TC.ret (fR ?_)
   refine ⟨congrArg Value.bool (decide_eq_false (p := zbe o) fun h => ?_).symm, rfl⟩
   rcases h with ⟨a1, a2, a3, a4, a5⟩ | ⟨a1, a2, a3, a4⟩ | ⟨a1, a2, a3, a4⟩ <;> first | omega | exact absurd a3 hi
 ·refine S.dec rfl rfl (Qt.eqi rfl rfl) (fun h34 => gw ?_) (fun h34 => gw ?_)
  ·refine S.dec rfl rfl (Qt.eq (b := 0) rfl rfl) (fun h37 => gw ?_) (fun h37 => gw ?_)
   ·by_cases hi : idxOk 32 o.xs
    ·refine S.g0 J41 (fun w hw => zb6 32 (by decide) A c o.xs hi w hlow (Rd.ro hR w hw)) (gw ?_)
     refine S.decg rfl rfl rfl (Qt.eq (b := 0) rfl rfl) (fun h47 => gw ?_) (fun h47 => gw ?_)
     ·refine TC.ret (fR ?_)
      exact ⟨congrArg Value.bool (decide_eq_true (p := zbe o) (.inr (.inl ⟨h34, h37, hi, h47⟩))).symm, rfl⟩
     ·refine TC.ret (fR ?_)
      refine ⟨congrArg Value.bool (decide_eq_false (p := zbe o) fun h => ?_).symm, rfl⟩
      rcases h with ⟨a1, a2, a3, a4, a5⟩ | ⟨a1, a2, a3, a4⟩ | ⟨a1, a2, a3, a4⟩ <;> first | omega | exact absurd a3 hi
    ·refine S.g0 J41 (fun w hw => zck 32 (by decide) A c o.xs hi w hlow (Rd.ro hR w hw)) (gw ?_)
     refine TC.ret (fR ?_)
     refine ⟨congrArg Value.bool (decide_eq_false (p := zbe o) fun h => ?_).symm, rfl⟩
     rcases h with ⟨a1, a2, a3, a4, a5⟩ | ⟨a1, a2, a3, a4⟩ | ⟨a1, a2, a3, a4⟩ <;> first | omega | exact absurd a3 hi
   ·refine TC.ret (fR ?_)
    refine ⟨congrArg Value.bool (decide_eq_false (p := zbe o) fun h => ?_).symm, rfl⟩
    rcases h with ⟨a1, a2, a3, a4, a5⟩ | ⟨a1, a2, a3, a4⟩ | ⟨a1, a2, a3, a4⟩ <;> first | omega | exact absurd a3 hi
  ·refine S.dec rfl rfl (Qt.eqi rfl rfl) (fun h50 => gw ?_) (fun h50 => gw ?_)
   ·refine S.r (Qt.add rfl rfl km) ?_
    refine S.dec rfl rfl (Qt.eq (b := 0) rfl rfl) (fun h58 => gw ?_) (fun h58 => gw ?_)
    ·refine S.decg rfl rfl rfl (Qt.ge (b := 1) rfl rfl) (fun h62 => gw ?_) (fun h62 => gw ?_)
     ·refine S.decg rfl rfl rfl (Qt.le (b := 4294967296) rfl rfl) (fun h67 => gw ?_) (fun h67 => gw ?_)
      ·refine TC.ret (fR ?_)
       exact ⟨congrArg Value.bool (decide_eq_true (p := zbe o) (.inr (.inr ⟨h50, by omega, by omega, h62, h67⟩))).symm, rfl⟩
      ·refine TC.ret (fR ?_)
       refine ⟨congrArg Value.bool (decide_eq_false (p := zbe o) fun h => ?_).symm, rfl⟩
       rcases h with ⟨a1, a2, a3, a4, a5⟩ | ⟨a1, a2, a3, a4⟩ | ⟨a1, a2, a3, a4, a5⟩ <;> omega
     ·refine TC.ret (fR ?_)
      refine ⟨congrArg Value.bool (decide_eq_false (p := zbe o) fun h => ?_).symm, rfl⟩
      rcases h with ⟨a1, a2, a3, a4, a5⟩ | ⟨a1, a2, a3, a4⟩ | ⟨a1, a2, a3, a4, a5⟩ <;> omega
    ·refine TC.ret (fR ?_)
     refine ⟨congrArg Value.bool (decide_eq_false (p := zbe o) fun h => ?_).symm, rfl⟩
     rcases h with ⟨a1, a2, a3, a4, a5⟩ | ⟨a1, a2, a3, a4⟩ | ⟨a1, a2, a3, a4, a5⟩ <;> omega
   ·refine TC.ret (fR ?_)
    refine ⟨congrArg Value.bool (decide_eq_false (p := zbe o) fun h => ?_).symm, rfl⟩
    rcases h with ⟨a1, a2, a3, a4, a5⟩ | ⟨a1, a2, a3, a4⟩ | ⟨a1, a2, a3, a4⟩ <;> omega
theorem zhU (x : Nat) (nb n : Nat) (w0 : World) (hN : Ro w0 [] (Blk nb 40 [.int .u64 (n : Int)])) :
  Calls prog 151 #[.int .u64 (x : Int), .pointer (some ⟨nb, 0, none⟩)] w0 (Post w0 [] fun v L => v = .bool (decide (n ≤ x)) ∧ L = []) := by
 refine co 7 [.tmp 3] func151 ?_
 refine gw ?_
 refine S.r (Qt.ge rfl rfl) (gw ?_)
 refine TC.ret (fR ?_)
 exact ⟨rfl, rfl⟩
theorem zrh (fn : FuncId) (cp : Array Value) (q : Nat → Bool) (hent : zae prog fn) (A : OAd) (c : Nat) (xs : List Nat) (hn : xs.length ≤ 256) (hq : ∃ s ∈ xs, q s = true) (w0 : World) (hR : Ro w0 [] (SlA A (u64s xs))) (hf : ∀ x ∈ xs, ∀ w, St w0 [] [] w → Calls prog fn ((([.int .u64 (x : Int)] : List Value) ++ cp.toList).toArray) w (Ret w (.bool (q x)))) : Calls prog 150 #[.slice A xs.length c, .func (.func fn) #[] cp] w0 (Ret w0 (.bool true)) := by
 refine Calls.ret ?_
 refine co 9 [.tmp 4] func150 ?_
 refine gw ?_
 refine S.cn J191 (fun w hw => zgz fn cp q hent A c xs hn w (Rd.ro hR w hw) (fun x hx w1 s1 => hf x hx w1 ((hw.sub sn).after0 s1))) ?_
 rintro v L' ⟨z, rfl, rfl, hz⟩
 refine S.r (Qt.dT (Qt.gei rfl rfl) (Int.not_lt.1 (fun h => by obtain ⟨s, h1, h2⟩ := hq; obtain ⟨j, hj, rfl⟩ := List.mem_iff_getElem.1 h1; have h3 := hz.1 h j hj; rw [zdo 0 hj, h2] at h3; cases h3))) (gw ?_)
 refine TC.ret (fR ?_)
 exact ⟨rfl, rfl⟩
theorem zri (fn : FuncId) (cp : Array Value) (q : Nat → Bool) (hent : zae prog fn) (A : OAd) (c : Nat) (xs : List Nat) (hn : xs.length ≤ 256) (hq : ∀ s ∈ xs, q s = false) (w0 : World) (hR : Ro w0 [] (SlA A (u64s xs))) (hf : ∀ x ∈ xs, ∀ w, St w0 [] [] w → Calls prog fn ((([.int .u64 (x : Int)] : List Value) ++ cp.toList).toArray) w (Ret w (.bool (q x)))) : Calls prog 150 #[.slice A xs.length c, .func (.func fn) #[] cp] w0 (Ret w0 (.bool false)) := by
 refine Calls.ret ?_
 refine co 9 [.tmp 4] func150 ?_
 refine gw ?_
 refine S.cn J191 (fun w hw => zgz fn cp q hent A c xs hn w (Rd.ro hR w hw) (fun x hx w1 s1 => hf x hx w1 ((hw.sub sn).after0 s1))) ?_
 rintro v L' ⟨z, rfl, rfl, hz⟩
 refine S.r (Qt.dF (Qt.gei rfl rfl) (fun h => by obtain ⟨j, h1, h2, h3, h4⟩ := hz.2 (Int.not_lt.2 h); rw [hq _ (zbk 0 h2)] at h4; cases h4)) (gw ?_)
 refine TC.ret (fR ?_)
 exact ⟨rfl, rfl⟩
theorem zdq (A : OAd) (c : Nat) (B : OAd) (d : Nat) (o : Order) (hss : o.ss.length ≤ 65536) (hxx : o.xs.length ≤ 65536) (n : Nat) (w0 : World) (hlow : ∀ x ∈ o.xs, x < 18446744073709551616) (hR : Ro w0 [] (SlA A (u64s o.xs))) (hS : Ro w0 [] (SlA B (o.ss.flatMap zaD))) : Calls prog 93 #[.agg (zaX A c B d o).toArray, .int .u64 (n : Int)] w0 (Ret w0 (.bool (decide (zce o n)))) := by
 refine Calls.ret ?_
 refine co 14 [.tmp 4] func93 ?_
 refine gw ?_
 intro b2
 refine gw ?_
 intro b3
 refine gw ?_
 refine S.r (Qt.load rfl (Ld.all (vs := (zaX A c B d o)) hz1 rT ce58)) ?_
 by_cases hr : zbe o
 ·refine S.c0 J99 (fun w hw => (by have h := zcK A c B d o hss hxx w hlow (Rd.ro hR w hw) (Rd.ro hS w hw); rw [decide_eq_true hr] at h; exact h : Calls prog 99 #[.agg (zaX A c B d o).toArray] w (Ret w (.bool true)))) (gw ?_)
  refine S.qg rfl rfl rfl (Qt.makeFuncL (fs := []) (cs := [.pointer (some ⟨b3, 0, none⟩)]) rfl rfl) ?_
  by_cases hany : ∃ x ∈ o.xs, decide (n ≤ x) = true
  ·refine S.g0 J150 (fun w hw => zrh 151 #[.pointer (some ⟨b3, 0, none⟩)] (fun x => decide (n ≤ x)) J151 A c o.xs (zgQ hr) hany w (Rd.ro hR w hw) (fun x hx w1 s1 => Calls.ret (zhU x b3 n w1 ((Rd.at 0 rfl w hw).go s1 (fun b hb => by cases hb))))) (gw ?_)
   refine TC.ret (fR ?_)
   exact ⟨congrArg Value.bool (decide_eq_false (p := zce o n) (fun h => by obtain ⟨x, h1, h2⟩ := hany; have := h.2 x h1; have := of_decide_eq_true h2; omega)).symm, rfl⟩
  ·refine S.g0 J150 (fun w hw => zri 151 #[.pointer (some ⟨b3, 0, none⟩)] (fun x => decide (n ≤ x)) J151 A c o.xs (zgQ hr) (fun s hs => Bool.eq_false_iff.2 (fun e => hany ⟨s, hs, e⟩)) w (Rd.ro hR w hw) (fun x hx w1 s1 => Calls.ret (zhU x b3 n w1 ((Rd.at 0 rfl w hw).go s1 (fun b hb => by cases hb))))) (gw ?_)
   refine TC.ret (fR ?_)
   exact ⟨congrArg Value.bool (decide_eq_true (p := zce o n) ⟨hr, fun x hx => Nat.lt_of_not_le (fun h => hany ⟨x, hx, decide_eq_true h⟩)⟩).symm, rfl⟩
 ·refine S.c0 J99 (fun w hw => (by have h := zcK A c B d o hss hxx w hlow (Rd.ro hR w hw) (Rd.ro hS w hw); rw [decide_eq_false hr] at h; exact h : Calls prog 99 #[.agg (zaX A c B d o).toArray] w (Ret w (.bool false)))) (gw ?_)
  refine TC.ret (fR ?_)
  exact ⟨congrArg Value.bool (decide_eq_false (p := zce o n) (fun h => hr h.1)).symm, rfl⟩
end Go.Proofs.YtgdjcmehlhebdaaGreatDoor
