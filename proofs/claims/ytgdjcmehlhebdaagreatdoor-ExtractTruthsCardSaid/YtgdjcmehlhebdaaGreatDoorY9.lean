/- Walks: orders, which are right, which fit -/
import Derived.Test.YtgdjcmehlhebdaaGreatDoorY8
import Derived.Test.YtgdjcmehlhebdaaGreatDoorXQ
set_option maxHeartbeats 25600000
set_option linter.all false
namespace Go.Proofs.YtgdjcmehlhebdaaGreatDoor
open _root_.Go.Proofs.Tryz
open Go.E
set_option maxRecDepth 4000
theorem sV {o : Order} (h : A7 o) : o.xs.length ≤ 256 := by
 rcases h with ⟨_, _, a, _⟩ | ⟨_, _, a, _⟩ | ⟨_, a, _⟩
 ·exact a.2.1
 ·exact a.2.1
 ·omega
theorem EU (e : Nat) (he : e < 18446744073709551616) (w0) : cR 159 #[uI (0 : Nat), uI e] w0 (.bool (decide (mE e))) := by
 refine cQ (co 15 [.tmp 4] func159 ?_)
 refine gw ?_
 refine e6 (Qt.dT (p9 (b := 4294967296) rfl rfl) dc) (gw ?_)
 refine D9 rfl rfl rfl (T0 (b := 1) rfl rfl) (fun h9 => gw ?_) (fun h9 => gw ?_)
 ·refine D9 rfl rfl rfl (p9 (b := 18446744073709551615) rfl rfl) (fun h13 => gw ?_) (fun h13 => gw ?_)
  ·refine a9 (fR ?_)
   exact ⟨by rw [decide_eq_true (p := mE e) ⟨h9, h13⟩]; rfl, rfl⟩
  ·refine a9 (fR ?_)
   exact ⟨by rw [decide_eq_false (p := mE e) (fun h => by obtain ⟨a, b⟩ := h; omega)]; rfl, rfl⟩
 ·refine a9 (fR ?_)
  exact ⟨by rw [decide_eq_false (p := mE e) (fun h => by obtain ⟨a, b⟩ := h; omega)]; rfl, rfl⟩
theorem wF (x : Sealed) (ob : Nat) (A) (c : Nat) (B) (d : Nat) (o : Order) (h0 : 0 < o.ss.length) (w0) (hO : Ro w0 [] (Blk ob 58 (G3 A c B d o))) (hS : Ro w0 [] (SlA B (o.ss.flatMap o4))) :
  cP 158 #[.agg (o4 x).toArray, pZ ob] w0 fun v L => v = .bool (BS o.ss x) ∧ L = [] := by
 refine co 18 [.tmp 3] func158 ?_
 refine gw ?_
 intro b2
 refine gw ?_
 refine dw ([], []) (gw ?_)
 by_cases hep : mE x.ep
 ·refine I7 2 rfl en (fun w hw => (by have h := EU x.ep x.lt w; rw [decide_eq_true hep] at h; exact h)) (gw ?_)
  refine C2 9 rfl rfl (i5 (i := 0) uT cT rfl rfl (h0) (c9 hS) (by rw [K2]; omega)) (C2 10 rfl rfl (z5 uT rfl ce40 rfl (c9 hS) (by rw [K2]; omega)) (C2 11 rfl rfl (a8 rfl (A9 (v := uI (((o.ss.getD 0 A4).ep) : Int)) (c9 hS) oT (X6 h0 rfl 0 _ rfl))) (dN (k := 12) rfl kr kr kr rfl rfl rfl (C7 rfl rfl) (fun h16 => gw ?_) (fun h16 => gw ?_))))
  ·refine p7 (a9 (fR ?_))
   exact ⟨by rw [BS, decide_eq_true (.inr h16)]; rfl, rfl⟩
  ·refine p7 (a9 (fR ?_))
   exact ⟨by rw [BS, decide_eq_false (fun h => h.elim (fun q => q hep) h16)]; rfl, rfl⟩
 ·refine I7 2 rfl en (fun w hw => (by have h := EU x.ep x.lt w; rw [decide_eq_false hep] at h; exact h)) (gw ?_)
  refine p7 (a9 (fR ?_))
  exact ⟨by rw [BS, decide_eq_true (.inl hep)]; rfl, rfl⟩
theorem zC (fn : FuncId) (cp : Array Value) (q : Sealed → Bool) (hent : p8 prog fn) (B : y8) (d : Nat) (ss : List Sealed) (hn : ss.length ≤ 65536)  (w0 : World) (hS : Ro w0 [] (SlA B (ss.flatMap o4))) (hf : ∀ x ∈ ss, ∀ w, St w0 [] [] w → Calls prog fn ((([.agg (o4 x).toArray] : List Value) ++ cp.toList).toArray) w (nX w (.bool (q x)))) :
    Calls prog 193 #[.slice B ss.length d, .func (.func fn) #[] cp] w0 (D0 w0 [] fun v L => ∃ z : Int, v = .int .i64 z ∧ L = [] ∧ (z < 0 → ∀ s ∈ ss, q s = false) ∧ (0 ≤ z → ∃ s ∈ ss, q s = true)) := by
  refine N4 (L := []) (n := 19) (rs := [.tmp 4]) func193 rfl rfl rfl (Nat.le_of_ble_eq_true rfl) (Sat.nil _) ?_
  refine c8 ?_
  refine c7 ?_
  refine C3 ?_
  refine l3 ?_
  refine c8 ?_
  refine c8 ?_
  refine c7 ?_
  refine o8 ?_
  refine e6 (D6 uT rfl) ?_
  refine o8 ?_
  refine l3 ?_
  refine C5 ?_
  refine l5 (γ := Nat) [9, 10, 5, 11, 12, 13, 14, 15, 16, 17, 4, 18, 8] (fun k => [(8, .int .i64 (k : Int))]) (fun _ => _) (fun k => k ≤ ss.length ∧ ∀ j, j < k → q (ss.getD j A4) = false) (fun k => ss.length - k) (0)
    ⟨Nat.zero_le _, fun j h => absurd h (Nat.not_lt_zero _)⟩ ⟨Out.refl _ _, (List.forall_mem_cons.2 ⟨rfl, (fun _ h => nomatch h)⟩)⟩ sr ?_
  rintro k u ⟨hk, hq⟩
  refine c8 ?_
  refine c7 ?_
  refine j0 rfl rfl (p9 rfl rfl) (fun h9 => ?_) (fun h9 => ?_)
  · refine l3 ?_
    refine c8 ?_
    refine Q3 rfl ?_
    refine w8 ?_
    refine c8 ?_
    refine C5 ?_
    refine c8 ?_
    refine c7 ?_
    refine o8 ?_
    refine C3 ?_
    refine l3 ?_
    refine c8 ?_
    refine c7 ?_
    refine o8 ?_
    refine o8 ?_
    refine o8 ?_
    refine e6 (i5 uT cT rfl rfl ow (c9 hS) (by rw [K2]; omega)) ?_
    refine e6 (a8 rfl (H4 (vs := o4 (ss.getD k A4)) (c9 hS) rT (by rw [k9]; exact ce136) (by rw [k9]; decide) (X6 h9 rfl))) ?_
    refine z7 (R1 hent rfl (fun w hw => hf _ (AE h9) w hw) ?_)
    refine l3 ?_
    refine eK rfl (fun b16 => ?_) (fun b16 => ?_)
    · refine c8 ?_
      refine c7 ?_
      refine o8 ?_
      refine C3 ?_
      refine l3 ?_
      refine a9 (fR ?_)
      exact ⟨_, rfl, rfl, fun h => by omega, fun _ => ⟨_, AE h9, b16⟩⟩
    · refine w8 ?_
      refine c7 ?_
      refine e6 (v4 (b := 1) rfl rfl km) ?_
      refine o8 ?_
      refine l3 ?_
      refine ⟨k + 1, ?_, ?_, ⟨?_, (List.forall_mem_cons.2 ⟨rfl, (fun _ h => nomatch h)⟩)⟩, sr⟩
      · exact ⟨by show _ ≤ _; omega, fun j hj => (Nat.lt_or_ge j k).elim (hq j) (fun h => by (obtain rfl : j = k := by omega); exact b16)⟩
      · show _ < _; dsimp only; omega
      repeat (first | exact Out.refl _ _ | refine Out.put rfl ?_ | refine U3 rfl ?_ | refine Out.scr ?_ | refine X4 rfl ?_)
  · refine l3 ?_
    refine c8 ?_
    refine C4 rfl ?_
    refine i7 ?_
    refine c8 ?_
    refine c7 ?_
    refine C3 ?_
    refine l3 ?_
    refine a9 (fR ?_)
    refine ⟨_, rfl, rfl, fun _ s hs => ?_, fun h => absurd h (by decide)⟩
    obtain ⟨j, hj, rfl⟩ := List.mem_iff_getElem.1 hs
    have := hq j ow
    simpa [List.getD, hj] using this
theorem zgL (fn : FuncId) (cp : Array Value) (q : Sealed → Bool) (hent : p8 prog fn) (B) (d : Nat) (ss : List Sealed) (hn : ss.length ≤ 65536) (hq : ∃ s ∈ ss, q s = true) (w0) (hS : Ro w0 [] (SlA B (ss.flatMap o4))) (hf : ∀ x ∈ ss, ∀ w, St w0 [] [] w → cR fn ((([.agg (o4 x).toArray] : List Value) ++ cp.toList).toArray) w (.bool (q x))) : cR 160 #[sL B ss.length d, .func (.func fn) #[] cp] w0 (.bool true) := by
 refine cQ (co 9 [.tmp 4] func160 ?_)
 refine gw ?_
 refine z9 en (fun w hw => zC fn cp q hent B d ss hn w (Rd.ro hS w hw) (fun x hx w1 s1 => hf x hx w1 ((hw.sub sn).after0 s1))) ?_
 rintro v L' ⟨z, rfl, rfl, N3, aH⟩
 refine e6 (Qt.dT (eI rfl rfl) (Int.not_lt.1 (fun h => by obtain ⟨s, h1, h2⟩ := hq; rw [N3 h s h1] at h2; cases h2))) (gw ?_)
 exact tR
theorem zgK (fn : FuncId) (cp : Array Value) (q : Sealed → Bool) (hent : p8 prog fn) (B) (d : Nat) (ss : List Sealed) (hn : ss.length ≤ 65536) (hq : ∀ s ∈ ss, q s = false) (w0) (hS : Ro w0 [] (SlA B (ss.flatMap o4))) (hf : ∀ x ∈ ss, ∀ w, St w0 [] [] w → cR fn ((([.agg (o4 x).toArray] : List Value) ++ cp.toList).toArray) w (.bool (q x))) : cR 160 #[sL B ss.length d, .func (.func fn) #[] cp] w0 (.bool false) := by
 refine cQ (co 9 [.tmp 4] func160 ?_)
 refine gw ?_
 refine z9 en (fun w hw => zC fn cp q hent B d ss hn w (Rd.ro hS w hw) (fun x hx w1 s1 => hf x hx w1 ((hw.sub sn).after0 s1))) ?_
 rintro v L' ⟨z, rfl, rfl, N3, aH⟩
 refine e6 (Qt.dF (eI rfl rfl) (fun h => by obtain ⟨s, h1, h2⟩ := aH h; rw [hq s h1] at h2; cases h2)) (gw ?_)
 exact tR
theorem cH (A) (c : Nat) (B) (d : Nat) (o : Order) (hss : o.ss.length ≤ 65536) (hxx : o.xs.length ≤ 65536) (w0) (lw : ∀ x ∈ o.xs, x < 18446744073709551616) (hR : Ro w0 [] (SlA A (w6 o.xs))) (hS : Ro w0 [] (SlA B (o.ss.flatMap o4))) : cR 99 #[.agg (G3 A c B d o).toArray] w0 (.bool (decide (A7 o))) := by
 refine cQ (co 69 [.tmp 2] func99 ?_)
 refine gw ?_
 intro b1
 refine gw ?_
 refine e6 (E9 (fs := []) (cs := [pZ b1]) rfl rfl) (gw ?_)
 refine j0 rfl rfl (I5 rfl rfl) (fun h8 => gw ?_) (fun h8 => gw ?_)
 ·refine j0 rfl rfl (z6 (b := 0) rfl rfl) (fun h11 => gw ?_) (fun h11 => gw ?_)
  ·by_cases hi : idxOk 32 o.xs
   ·refine aK en (fun w hw => aD 32 dc A c o.xs hi w lw (Rd.ro hR w hw)) (gw ?_)
    refine D9 rfl rfl rfl (z6 rfl rfl) (fun h24 => gw ?_) (fun h24 => gw ?_)
    ·by_cases hany : ∃ s ∈ o.ss, BS o.ss s = true
     ·refine aK en (fun w hw => zgL 158 #[pZ b1] (BS o.ss) en B d o.ss hss hany w (Rd.ro hS w hw) (fun x hx w1 s1 => cQ (wF x b1 A c B d o (by have := List.length_pos_of_mem hx; exact this) w1 ((Rd.at 0 rfl w hw).go s1 nb) ((Rd.ro hS w hw).go s1 nb)))) (gw ?_)
      refine a9 (fR ?_)
      exact ⟨(dF (p := A7 o) (zfO h8 hany)).symm, rfl⟩
     ·refine aK en (fun w hw => zgK 158 #[pZ b1] (BS o.ss) en B d o.ss hss (fun s hs => Bool.eq_false_iff.2 (fun e => hany ⟨s, hs, e⟩)) w (Rd.ro hS w hw) (fun x hx w1 s1 => cQ (wF x b1 A c B d o (by have := List.length_pos_of_mem hx; exact this) w1 ((Rd.at 0 rfl w hw).go s1 nb) ((Rd.ro hS w hw).go s1 nb)))) (gw ?_)
      refine a9 (fR ?_)
      exact ⟨(dT (p := A7 o) (ziP h8 h11 hi h24 (fun s hs => Bool.eq_false_iff.2 (fun e => hany ⟨s, hs, e⟩)))).symm, rfl⟩
    ·refine a9 (fR ?_)
     refine ⟨(dF (p := A7 o) fun h => ?_).symm, rfl⟩
     rcases h with ⟨a1, a2, a3, a4, a5⟩ | ⟨a1, a2, a3, a4⟩ | ⟨a1, a2, a3, a4⟩ <;> first | omega | exact absurd a3 hi
   ·refine aK en (fun w hw => eD 32 dc A c o.xs hi w lw (Rd.ro hR w hw)) (gw ?_)
    refine a9 (fR ?_)
    refine ⟨(dF (p := A7 o) fun h => ?_).symm, rfl⟩
    rcases h with ⟨a1, a2, a3, a4, a5⟩ | ⟨a1, a2, a3, a4⟩ | ⟨a1, a2, a3, a4⟩ <;> first | omega | exact absurd a3 hi
  ·refine a9 (fR ?_)
   refine ⟨(dF (p := A7 o) fun h => ?_).symm, rfl⟩
   rcases h with ⟨a1, a2, a3, a4, a5⟩ | ⟨a1, a2, a3, a4⟩ | ⟨a1, a2, a3, a4⟩ <;> first | omega | exact absurd a3 hi
 ·refine j0 rfl rfl (I5 rfl rfl) (fun h34 => gw ?_) (fun h34 => gw ?_)
  ·refine j0 rfl rfl (z6 (b := 0) rfl rfl) (fun h37 => gw ?_) (fun h37 => gw ?_)
   ·by_cases hi : idxOk 32 o.xs
    ·refine aK en (fun w hw => aD 32 dc A c o.xs hi w lw (Rd.ro hR w hw)) (gw ?_)
     refine D9 rfl rfl rfl (z6 (b := 0) rfl rfl) (fun h47 => gw ?_) (fun h47 => gw ?_)
     ·refine a9 (fR ?_)
      exact ⟨(dT (p := A7 o) (.inr (.inl ⟨h34, h37, hi, h47⟩))).symm, rfl⟩
     ·refine a9 (fR ?_)
      refine ⟨(dF (p := A7 o) fun h => ?_).symm, rfl⟩
      rcases h with ⟨a1, a2, a3, a4, a5⟩ | ⟨a1, a2, a3, a4⟩ | ⟨a1, a2, a3, a4⟩ <;> first | omega | exact absurd a3 hi
    ·refine aK en (fun w hw => eD 32 dc A c o.xs hi w lw (Rd.ro hR w hw)) (gw ?_)
     refine a9 (fR ?_)
     refine ⟨(dF (p := A7 o) fun h => ?_).symm, rfl⟩
     rcases h with ⟨a1, a2, a3, a4, a5⟩ | ⟨a1, a2, a3, a4⟩ | ⟨a1, a2, a3, a4⟩ <;> first | omega | exact absurd a3 hi
   ·refine a9 (fR ?_)
    refine ⟨(dF (p := A7 o) fun h => ?_).symm, rfl⟩
    rcases h with ⟨a1, a2, a3, a4, a5⟩ | ⟨a1, a2, a3, a4⟩ | ⟨a1, a2, a3, a4⟩ <;> first | omega | exact absurd a3 hi
  ·refine j0 rfl rfl (I5 rfl rfl) (fun h50 => gw ?_) (fun h50 => gw ?_)
   ·refine e6 (v4 rfl rfl km) (j0 rfl rfl (z6 (b := 0) rfl rfl) (fun h58 => gw ?_) (fun h58 => gw ?_))
    ·refine D9 rfl rfl rfl (T0 (b := 1) rfl rfl) (fun h62 => gw ?_) (fun h62 => gw ?_)
     ·refine D9 rfl rfl rfl (bM (b := 4294967296) rfl rfl) (fun h67 => gw ?_) (fun h67 => gw ?_)
      ·refine a9 (fR ?_)
       exact ⟨(dT (p := A7 o) (.inr (.inr ⟨h50, by omega, by omega, h62, h67⟩))).symm, rfl⟩
      ·refine a9 (fR ?_)
       refine ⟨(dF (p := A7 o) fun h => ?_).symm, rfl⟩
       rcases h with ⟨a1, a2, a3, a4, a5⟩ | ⟨a1, a2, a3, a4⟩ | ⟨a1, a2, a3, a4, a5⟩ <;> omega
     ·refine a9 (fR ?_)
      refine ⟨(dF (p := A7 o) fun h => ?_).symm, rfl⟩
      rcases h with ⟨a1, a2, a3, a4, a5⟩ | ⟨a1, a2, a3, a4⟩ | ⟨a1, a2, a3, a4, a5⟩ <;> omega
    ·refine a9 (fR ?_)
     refine ⟨(dF (p := A7 o) fun h => ?_).symm, rfl⟩
     rcases h with ⟨a1, a2, a3, a4, a5⟩ | ⟨a1, a2, a3, a4⟩ | ⟨a1, a2, a3, a4, a5⟩ <;> omega
   ·refine a9 (fR ?_)
    refine ⟨(dF (p := A7 o) fun h => ?_).symm, rfl⟩
    rcases h with ⟨a1, a2, a3, a4, a5⟩ | ⟨a1, a2, a3, a4⟩ | ⟨a1, a2, a3, a4⟩ <;> omega
theorem vK (x : Nat) (nbq n : Nat) (w0) (hN : Ro w0 [] (Blk nbq 40 [uI n])) :
  cP 151 #[uI x, pZ nbq] w0 fun v L => v = .bool (decide (n ≤ x)) ∧ L = [] := by
 refine co 7 [.tmp 3] func151 ?_
 refine gw ?_
 refine e6 (T0 rfl rfl) (gw ?_)
 exact tR
theorem zgN (fn : FuncId) (cp : Array Value) (q : Nat → Bool) (hent : p8 prog fn) (A) (c : Nat) (xs : List Nat) (hn : xs.length ≤ 256) (hq : ∃ s ∈ xs, q s = true) (w0) (hR : Ro w0 [] (SlA A (w6 xs))) (hf : ∀ x ∈ xs, ∀ w, St w0 [] [] w → cR fn ((([uI x] : List Value) ++ cp.toList).toArray) w (.bool (q x))) : cR 150 #[sL A xs.length c, .func (.func fn) #[] cp] w0 (.bool true) := by
 refine cQ (co 9 [.tmp 4] func150 ?_)
 refine gw ?_
 refine z9 en (fun w hw => qH fn cp q hent A c xs hn w (Rd.ro hR w hw) (fun x hx w1 s1 => hf x hx w1 ((hw.sub sn).after0 s1))) ?_
 rintro v L' ⟨z, rfl, rfl, hz⟩
 refine e6 (Qt.dT (eI rfl rfl) (Int.not_lt.1 (fun h => by obtain ⟨s, h1, h2⟩ := hq; obtain ⟨j, hj, rfl⟩ := List.mem_iff_getElem.1 h1; have h3 := hz.1 h j hj; rw [tU 0 hj, h2] at h3; cases h3))) (gw ?_)
 exact tR
theorem zgM (fn : FuncId) (cp : Array Value) (q : Nat → Bool) (hent : p8 prog fn) (A) (c : Nat) (xs : List Nat) (hn : xs.length ≤ 256) (hq : ∀ s ∈ xs, q s = false) (w0) (hR : Ro w0 [] (SlA A (w6 xs))) (hf : ∀ x ∈ xs, ∀ w, St w0 [] [] w → cR fn ((([uI x] : List Value) ++ cp.toList).toArray) w (.bool (q x))) : cR 150 #[sL A xs.length c, .func (.func fn) #[] cp] w0 (.bool false) := by
 refine cQ (co 9 [.tmp 4] func150 ?_)
 refine gw ?_
 refine z9 en (fun w hw => qH fn cp q hent A c xs hn w (Rd.ro hR w hw) (fun x hx w1 s1 => hf x hx w1 ((hw.sub sn).after0 s1))) ?_
 rintro v L' ⟨z, rfl, rfl, hz⟩
 refine e6 (Qt.dF (eI rfl rfl) (fun h => by obtain ⟨j, h1, h2, h3, h4⟩ := hz.2 (Int.not_lt.2 h); rw [hq _ (E6 0 h2)] at h4; cases h4)) (gw ?_)
 exact tR
theorem kG (A) (c : Nat) (B) (d : Nat) (o : Order) (hss : o.ss.length ≤ 65536) (hxx : o.xs.length ≤ 65536) (n : Nat) (w0) (lw : ∀ x ∈ o.xs, x < 18446744073709551616) (hR : Ro w0 [] (SlA A (w6 o.xs))) (hS : Ro w0 [] (SlA B (o.ss.flatMap o4))) : cR 93 #[.agg (G3 A c B d o).toArray, uI n] w0 (.bool (decide (T6 o n))) := by
 refine cQ (co 14 [.tmp 4] func93 ?_)
 refine gw ?_
 intro b2
 refine gw ?_
 intro b3
 refine gw ?_
 refine e6 (a8 rfl (i4 (vs := (G3 A c B d o)) N3 rT ce58)) ?_
 by_cases hr : A7 o
 ·refine u7 en (fun w hw => (by have h := cH A c B d o hss hxx w lw (Rd.ro hR w hw) (Rd.ro hS w hw); rw [decide_eq_true hr] at h; exact h : cR 99 #[.agg (G3 A c B d o).toArray] w (.bool true))) (gw ?_)
  refine E8 rfl rfl rfl (E9 (fs := []) (cs := [pZ b3]) rfl rfl) ?_
  by_cases hany : ∃ x ∈ o.xs, decide (n ≤ x) = true
  ·refine aK en (fun w hw => zgN 151 #[pZ b3] (fun x => decide (n ≤ x)) en A c o.xs (sV hr) hany w (Rd.ro hR w hw) (fun x hx w1 s1 => cQ (vK x b3 n w1 ((Rd.at 0 rfl w hw).go s1 nb)))) (gw ?_)
   refine a9 (fR ?_)
   exact ⟨(dF (p := T6 o n) (fun h => by obtain ⟨x, h1, h2⟩ := hany; have := h.2 x h1; have := of_decide_eq_true h2; omega)).symm, rfl⟩
  ·refine aK en (fun w hw => zgM 151 #[pZ b3] (fun x => decide (n ≤ x)) en A c o.xs (sV hr) (fun s hs => Bool.eq_false_iff.2 (fun e => hany ⟨s, hs, e⟩)) w (Rd.ro hR w hw) (fun x hx w1 s1 => cQ (vK x b3 n w1 ((Rd.at 0 rfl w hw).go s1 nb)))) (gw ?_)
   refine a9 (fR ?_)
   exact ⟨(dT (p := T6 o n) ⟨hr, fun x hx => Nat.lt_of_not_le (fun h => hany ⟨x, hx, decide_eq_true h⟩)⟩).symm, rfl⟩
 ·refine u7 en (fun w hw => (by have h := cH A c B d o hss hxx w lw (Rd.ro hR w hw) (Rd.ro hS w hw); rw [decide_eq_false hr] at h; exact h : cR 99 #[.agg (G3 A c B d o).toArray] w (.bool false))) (gw ?_)
  refine a9 (fR ?_)
  exact ⟨(dF (p := T6 o n) (fun h => hr h.1)).symm, rfl⟩
theorem zB (A : y8) (c : Nat) (ps : List Px) (hn : ps.length ≤ 16384) (w0 : World) (hR : Ro w0 [] (SlA A (ps.flatMap aZ))) (hP : PxRo w0 [] ps) (hl : PxLe ps) (hT : Tabs 3 1 w0 []) :
    Calls prog 110 #[.slice A ps.length c, .func (.func 50) #[] #[]] w0 (D0 w0 [] fun v L => v = .int .i64 (KA (ps.map N9)) ∧ L = []) := by
  refine N4 (L := []) (n := 19) (rs := [.tmp 4]) func110 rfl rfl rfl (Nat.le_of_ble_eq_true rfl) (Sat.nil _) ?_
  refine c8 ?_
  refine c7 ?_
  refine C3 ?_
  refine l3 ?_
  refine c8 ?_
  refine c8 ?_
  refine c7 ?_
  refine o8 ?_
  refine e6 (D6 uT rfl) ?_
  refine o8 ?_
  refine l3 ?_
  refine C5 ?_
  refine l5 (γ := Nat) [9, 10, 5, 11, 12, 13, 14, 15, 16, 17, 4, 18, 8] (fun k => [(8, .int .i64 (k : Int))]) (fun _ => _) (fun k => k ≤ ps.length ∧ ∀ i, i < k → zF ((ps.map N9).getD i KR) = false) (fun k => ps.length - k) (0)
    ⟨Nat.zero_le _, fun i h => absurd h (Nat.not_lt_zero _)⟩ ⟨Out.refl _ _, (List.forall_mem_cons.2 ⟨rfl, (fun _ h => nomatch h)⟩)⟩ sr ?_
  rintro k u ⟨hk, hq⟩
  refine c8 ?_
  refine c7 ?_
  refine j0 rfl rfl (p9 rfl rfl) (fun h9 => ?_) (fun h9 => ?_)
  · refine l3 ?_
    refine c8 ?_
    refine Q3 rfl ?_
    refine w8 ?_
    refine c8 ?_
    refine C5 ?_
    refine c8 ?_
    refine c7 ?_
    refine o8 ?_
    refine C3 ?_
    refine l3 ?_
    refine c8 ?_
    refine c7 ?_
    refine o8 ?_
    refine o8 ?_
    refine o8 ?_
    refine e6 (i5 uT cT rfl rfl ow (c9 hR) (by rw [P4]; omega)) ?_
    refine e6 (a8 rfl (H4 (vs := aZ (ps.getD k G7)) (c9 hR) rT ce114 (Nat.zero_lt_succ _) (cF ow rfl))) ?_
    by_cases hf : zF (N9 (ps.getD k G7)) = true
    · refine z7 (R1 J50 rfl (fun w hw => (by have h := Calls.ret (qI (ps.getD k G7).1.1 (ps.getD k G7).1.2.1 (ps.getD k G7).1.2.2 (ps.getD k G7).2.1 (ps.getD k G7).2.2.1 (ps.getD k G7).2.2.2 w (Rd.ro (hP _ (K0 ow)).1 w hw) (Rd.ro (hP _ (K0 ow)).2 w hw) (hl _ (K0 ow)).1 (hl _ (K0 ow)).2 (hT.at hw)); rw [show zF ((ps.getD k G7).1.2.2, (ps.getD k G7).2.2.2) = true from hf] at h; exact h : Calls prog 50 #[.agg (aZ (ps.getD k G7)).toArray] w (nX w (.bool true)))) ?_)
      refine l3 ?_
      refine Q3 rfl ?_
      refine c8 ?_
      refine c7 ?_
      refine o8 ?_
      refine C3 ?_
      refine l3 ?_
      refine a9 (fR ?_)
      have hp := JI (l := (ps.map N9)) (k := k) (by rw [List.length_map]; omega) hq (by rw [jH ow]; exact hf)
      exact ⟨by rw [BX (by rw [hp, List.length_map]; omega), hp]; rfl, rfl⟩
    · refine z7 (R1 J50 rfl (fun w hw => (by have h := Calls.ret (qI (ps.getD k G7).1.1 (ps.getD k G7).1.2.1 (ps.getD k G7).1.2.2 (ps.getD k G7).2.1 (ps.getD k G7).2.2.1 (ps.getD k G7).2.2.2 w (Rd.ro (hP _ (K0 ow)).1 w hw) (Rd.ro (hP _ (K0 ow)).2 w hw) (hl _ (K0 ow)).1 (hl _ (K0 ow)).2 (hT.at hw)); rw [show zF ((ps.getD k G7).1.2.2, (ps.getD k G7).2.2.2) = false from (Bool.eq_false_iff.2 hf)] at h; exact h : Calls prog 50 #[.agg (aZ (ps.getD k G7)).toArray] w (nX w (.bool false)))) ?_)
      refine l3 ?_
      refine C4 rfl ?_
      refine w8 ?_
      refine c7 ?_
      refine e6 (v4 (b := 1) rfl rfl km) ?_
      refine o8 ?_
      refine l3 ?_
      refine ⟨k + 1, ?_, ?_, ⟨?_, (List.forall_mem_cons.2 ⟨rfl, (fun _ h => nomatch h)⟩)⟩, sr⟩
      · exact ⟨by show _ ≤ _; omega, fun i hi => (Nat.lt_or_ge i k).elim (hq i) (fun h => by (obtain rfl : i = k := by omega); rw [jH ow]; exact Bool.eq_false_iff.2 hf)⟩
      · show _ < _; dsimp only; omega
      repeat (first | exact Out.refl _ _ | refine Out.put rfl ?_ | refine U3 rfl ?_ | refine Out.scr ?_ | refine X4 rfl ?_)
  · refine l3 ?_
    refine c8 ?_
    refine C4 rfl ?_
    refine i7 ?_
    refine c8 ?_
    refine c7 ?_
    refine C3 ?_
    refine l3 ?_
    refine a9 (fR ?_)
    have hp := HD (l := (ps.map N9)) (fun i hi => hq i (by rw [List.length_map] at hi; omega))
    exact ⟨by rw [BW (by rw [hp]; exact Nat.lt_irrefl _)]; rfl, rfl⟩
theorem wS (A) (c : Nat) (ps : List Px) (hn : ps.length ≤ 16384) (w0) (hR : Ro w0 [] (SlA A (ps.flatMap aZ))) (hP : PxRo w0 [] ps) (hl : PxLe ps) (hT : Tabs 2 0 w0 []) :
  cP 115 #[sL A ps.length c] w0 fun v L => v = iI (KA (ps.map N9)) ∧ L = [] := by
 refine co 16 [.tmp 2] func115 ?_
 refine gw ?_
 refine l5 (γ := Nat) (mr 2 14 []) (fun k => [(3, iI k)]) (fun _ => _) (fun k => k ≤ ps.length ∧ ∀ i, i < k → zF ((ps.map N9).getD i KR) = false) (fun k => ps.length - k) (0)
  ⟨Nat.zero_le _, fun i h => absurd h (Nat.not_lt_zero _)⟩ oa sr ?_
 rintro k u ⟨hk, hq⟩
 refine gw ?_
 refine j0 rfl rfl (p9 rfl rfl) (fun h7 => gw ?_) (fun h7 => gw ?_)
 ·refine e6 (i5 uT cT rfl rfl ow (c9 hR) (by rw [P4]; omega)) (e6 (a8 rfl (H4 (vs := aZ (ps.getD k G7)) (c9 hR) rT ce115 (Nat.zero_lt_succ _) (cF ow rfl))) ?_)
  by_cases hf : zF (N9 (ps.getD k G7)) = true
  ·refine u7 en (fun w hw => (by have h := cQ (qJ (ps.getD k G7).1.1 (ps.getD k G7).1.2.1 (ps.getD k G7).1.2.2 (ps.getD k G7).2.1 (ps.getD k G7).2.2.1 (ps.getD k G7).2.2.2 w (Rd.ro (hP _ (K0 ow)).1 w hw) (Rd.ro (hP _ (K0 ow)).2 w hw) (hl _ (K0 ow)).1 (hl _ (K0 ow)).2 (hT.at hw)); rw [show zF ((ps.getD k G7).1.2.2, (ps.getD k G7).2.2.2) = true from hf] at h; exact h : cR 51 #[.agg (aZ (ps.getD k G7)).toArray] w (.bool true))) (gw ?_)
   refine a9 (fR ?_)
   have hp := JI (l := (ps.map N9)) (k := k) (by rw [List.length_map]; omega) hq (by rw [jH ow]; exact hf)
   exact ⟨by rw [BX (by rw [hp, List.length_map]; omega), hp]; rfl, rfl⟩
  ·refine u7 en (fun w hw => (by have h := cQ (qJ (ps.getD k G7).1.1 (ps.getD k G7).1.2.1 (ps.getD k G7).1.2.2 (ps.getD k G7).2.1 (ps.getD k G7).2.2.1 (ps.getD k G7).2.2.2 w (Rd.ro (hP _ (K0 ow)).1 w hw) (Rd.ro (hP _ (K0 ow)).2 w hw) (hl _ (K0 ow)).1 (hl _ (K0 ow)).2 (hT.at hw)); rw [show zF ((ps.getD k G7).1.2.2, (ps.getD k G7).2.2.2) = false from (Bool.eq_false_iff.2 hf)] at h; exact h : cR 51 #[.agg (aZ (ps.getD k G7)).toArray] w (.bool false))) (gw ?_)
   refine ⟨k + 1, ?_, od, oz, sr⟩
   exact ⟨by show _ ≤ _; omega, fun i hi => (Nat.lt_or_ge i k).elim (hq i) (fun h => by (obtain rfl : i = k := by omega); rw [jH ow]; exact Bool.eq_false_iff.2 hf)⟩
 ·refine i7 (c8 (gw ?_))
  refine a9 (fR ?_)
  have hp := HD (l := (ps.map N9)) (fun i hi => hq i (by rw [List.length_map] at hi; omega))
  exact ⟨by rw [BW (by rw [hp]; exact Nat.lt_irrefl _)]; rfl, rfl⟩
theorem zjn (A) (c : Nat) (ps : List Px) (hn : ps.length ≤ 16384) (hp : X0 (ps.map N9) < ps.length) (w0) (hR : Ro w0 [] (SlA A (ps.flatMap aZ))) (hP : PxRo w0 [] ps) (hl : PxLe ps) (hT : Tabs 3 1 w0 []) : cR 110 #[sL A ps.length c, .func (.func 50) #[] #[]] w0 (iI ↑(X0 (ps.map N9))) := by
 have h := cQ (zB A c ps hn w0 hR hP hl hT)
 rwa [BX (by rw [List.length_map]; exact hp)] at h
theorem zjm (A) (c : Nat) (ps : List Px) (hn : ps.length ≤ 16384) (hp : ¬ X0 (ps.map N9) < ps.length) (w0) (hR : Ro w0 [] (SlA A (ps.flatMap aZ))) (hP : PxRo w0 [] ps) (hl : PxLe ps) (hT : Tabs 3 1 w0 []) : cR 110 #[sL A ps.length c, .func (.func 50) #[] #[]] w0 (iI (-1)) := by
 have h := cQ (zB A c ps hn w0 hR hP hl hT)
 rwa [BW (by rw [List.length_map]; exact hp)] at h
theorem ziK (A) (c : Nat) (ps : List Px) (hn : ps.length ≤ 16384) (hp : X0 (ps.map N9) < ps.length) (w0) (hR : Ro w0 [] (SlA A (ps.flatMap aZ))) (hP : PxRo w0 [] ps) (hl : PxLe ps) (hT : Tabs 2 0 w0 []) : cR 115 #[sL A ps.length c] w0 (iI ↑(X0 (ps.map N9))) := by
 have h := cQ (wS A c ps hn w0 hR hP hl hT)
 rwa [BX (by rw [List.length_map]; exact hp)] at h
theorem ziJ (A) (c : Nat) (ps : List Px) (hn : ps.length ≤ 16384) (hp : ¬ X0 (ps.map N9) < ps.length) (w0) (hR : Ro w0 [] (SlA A (ps.flatMap aZ))) (hP : PxRo w0 [] ps) (hl : PxLe ps) (hT : Tabs 2 0 w0 []) : cR 115 #[sL A ps.length c] w0 (iI (-1)) := by
 have h := cQ (wS A c ps hn w0 hR hP hl hT)
 rwa [BW (by rw [List.length_map]; exact hp)] at h
theorem vJ (A) (c : Nat) (ps : List Px) (hn : ps.length ≤ 16384) (hp : ¬ X0 (ps.map N9) < ps.length) (w0) (hR : Ro w0 [] (SlA A (ps.flatMap aZ))) (hP : PxRo w0 [] ps) (hl : PxLe ps) (hT : Tabs 3 1 w0 []) :
  cP 44 #[sL A ps.length c] w0 fun v L => v = .tuple #[.agg #[sL none 0 0, sL none 0 0], .bool false] ∧ L = [] := by
 refine co 23 [.cell 2 114, .tmp 3] func44 ?_
 refine gw ?_
 intro b2
 refine gw ?_
 refine u7 en (fun w hw => zjm A c ps hn hp w (Rd.ro hR w hw) (fun p q => ⟨Rd.ro (hP p q).1 w hw, Rd.ro (hP p q).2 w hw⟩) hl (hT.at hw)) (gw ?_)
 refine e6 (Qt.dT (iU rfl rfl) dc) (gw ?_)
 refine e6 (C8 (v := .agg #[sL none 0 0, sL none 0 0]) rfl (fun _ => by kernel_rfl)) (j9 rfl (j5 (v := .agg #[sL none 0 0, sL none 0 0]) rfl rfl (by exact ce114) (by rfl) (by rfl) (gw ?_)))
 refine a9 (finQ.ret (j7 rfl (i4 w5 rT (ce114)) rv) sn ?_)
 exact rr
theorem zdB (A) (c : Nat) (ps : List Px) (hn : ps.length ≤ 16384) (hp : X0 (ps.map N9) < ps.length) (w0) (hR : Ro w0 [] (SlA A (ps.flatMap aZ))) (hP : PxRo w0 [] ps) (hl : PxLe ps) (hT : Tabs 3 1 w0 []) :
  cP 44 #[sL A ps.length c] w0 fun v L => ∃ (Oa : y8) (da : Nat) (Ob : y8) (db : Nat), v = .tuple #[.agg #[sL Oa (ps.getD (X0 (ps.map N9)) G7).1.2.2.length da, sL Ob (ps.getD (X0 (ps.map N9)) G7).2.2.2.length db], .bool true] ∧ L = [OwnA 5 1 Oa (ps.getD (X0 (ps.map N9)) G7).1.2.2.length da (e9 (ps.getD (X0 (ps.map N9)) G7).1.2.2), OwnA 5 1 Ob (ps.getD (X0 (ps.map N9)) G7).2.2.2.length db (e9 (ps.getD (X0 (ps.map N9)) G7).2.2.2)] := by
 refine co 23 [.cell 2 114, .tmp 3] func44 ?_
 refine gw ?_
 intro b2
 refine gw ?_
 refine u7 en (fun w hw => zjn A c ps hn hp w (Rd.ro hR w hw) (fun p q => ⟨Rd.ro (hP p q).1 w hw, Rd.ro (hP p q).2 w hw⟩) hl (hT.at hw)) (gw ?_)
 refine e6 (Qt.dF (p9 (b := 0) rfl rfl) (Nat.not_lt_zero _)) (gw ?_)
 refine dw ([13], [5, 11]) (gw ?_)
 refine c6 2 rfl (i5 uT cT rfl rfl ow (c9 hR) (by rw [P4]; omega)) (c6 3 rfl (z5 uT rfl ce112 rfl (c9 hR) (by rw [P4]; omega)) (c6 4 rfl (a8 rfl (A9 (v := sL (ps.getD (X0 (ps.map N9)) G7).1.1 (ps.getD (X0 (ps.map N9)) G7).1.2.2.length (ps.getD (X0 (ps.map N9)) G7).1.2.1) (c9 hR) oT (cF hp rfl 0 _ rfl))) (gw ?_)))
 refine c6 8 rfl (i5 uT cT rfl rfl ow (c9 hR) (by rw [P4]; omega)) (c6 9 rfl (z5 uT rfl ce112 rfl (c9 hR) (by rw [P4]; omega)) (c6 10 rfl (a8 rfl (A9 (v := sL (ps.getD (X0 (ps.map N9)) G7).2.1 (ps.getD (X0 (ps.map N9)) G7).2.2.2.length (ps.getD (X0 (ps.map N9)) G7).2.2.1) (c9 hR) oT (cF hp rfl 1 _ rfl))) (P5 5 rfl en (fun w hw => rP (ps.getD (X0 (ps.map N9)) G7).1.1 (ps.getD (X0 (ps.map N9)) G7).1.2.1 (ps.getD (X0 (ps.map N9)) G7).1.2.2 w (Rd.ro (hP _ (K0 hp)).1 w hw) (hl _ (K0 hp)).1) ?_)))
 rintro v L' ⟨Oa, da, rfl, rfl⟩
 refine P5 11 rfl en (fun w hw => rP (ps.getD (X0 (ps.map N9)) G7).2.1 (ps.getD (X0 (ps.map N9)) G7).2.2.1 (ps.getD (X0 (ps.map N9)) G7).2.2.2 w (Rd.ro (hP _ (K0 hp)).2 w hw) (hl _ (K0 hp)).2) ?_
 rintro v L' ⟨Ob, db, rfl, rfl⟩
 refine c6 12 rfl (A5 (a := sL Oa (ps.getD (X0 (ps.map N9)) G7).1.2.2.length da) (b := sL Ob (ps.getD (X0 (ps.map N9)) G7).2.2.2.length db) rfl rfl (build66 _ _ _ _ _ _)) (F7 13 rfl (K9 (v := .agg #[sL Oa (ps.getD (X0 (ps.map N9)) G7).1.2.2.length da, sL Ob (ps.getD (X0 (ps.map N9)) G7).2.2.2.length db]) rfl rfl (by exact ce114) (by rfl) (by rfl) (G0 (gw ?_))))
 refine p7 (a9 (finQ.ret (j7 rfl (i4 aH rT (ce114)) rv) (sx [1, 0]) ?_))
 exact ⟨Oa, da, Ob, db, rfl, rfl⟩
theorem zcs (A) (c : Nat) (ps : List Px) (B) (e : Nat) (qs : List Px) (hn : ps.length ≤ 16384) (he : ps.map N9 = qs.map N9) (hp : ¬ X0 (ps.map N9) < ps.length) (w0) (hR : Ro w0 [] (SlA A (ps.flatMap aZ))) (hP : PxRo w0 [] ps) (hl : PxLe ps) (hR2 : Ro w0 [] (SlA B (qs.flatMap aZ))) (hP2 : PxRo w0 [] qs) (hl2 : PxLe qs) (hT : Tabs 3 1 w0 []) (hT2 : Tabs 2 0 w0 []) :
  cP 52 #[sL A ps.length c, sL B qs.length e] w0 fun v L => v = .bool true ∧ L = [] := by
 refine co 50 [.tmp 4] func52 ?_
 have hln : ps.length = qs.length := by have := congrArg List.length he; simpa using this
 have hpl : X0 (ps.map N9) = X0 (qs.map N9) := by rw [he]
 refine gw ?_
 refine u7 en (fun w hw => cQ (vJ A c ps hn hp w (Rd.ro hR w hw) (fun p q => ⟨Rd.ro (hP p q).1 w hw, Rd.ro (hP p q).2 w hw⟩) hl (hT.at hw))) (gw ?_)
 intro b5
 refine j9 rfl (j5 (v := .agg #[sL none 0 0, sL none 0 0]) rfl rfl (by exact ce114) (by rfl) (by rfl) (gw ?_))
 refine u7 en (fun w hw => ziJ B e qs ow ow w (Rd.ro hR2 w hw) (fun p q => ⟨Rd.ro (hP2 p q).1 w hw, Rd.ro (hP2 p q).2 w hw⟩) hl2 (hT2.at hw)) (gw ?_)
 refine e6 (Qt.dT (iU rfl rfl) dc) (gw ?_)
 refine E8 rfl rfl rfl (v4 rfl rfl km) (E8 rfl rfl rfl (Qt.dT (z6 (b := 0) rfl rfl) (rfl)) (gw ?_))
 exact tR
theorem zct (A) (c : Nat) (ps : List Px) (B) (e : Nat) (qs : List Px) (hn : ps.length ≤ 16384) (he : ps.map N9 = qs.map N9) (hp : X0 (ps.map N9) < ps.length) (w0) (hR : Ro w0 [] (SlA A (ps.flatMap aZ))) (hP : PxRo w0 [] ps) (hl : PxLe ps) (hR2 : Ro w0 [] (SlA B (qs.flatMap aZ))) (hP2 : PxRo w0 [] qs) (hl2 : PxLe qs) (hT : Tabs 3 1 w0 []) (hT2 : Tabs 2 0 w0 []) :
  cP 52 #[sL A ps.length c, sL B qs.length e] w0 fun v L => v = .bool true ∧ L = [] := by
 refine co 50 [.tmp 4] func52 ?_
 have hln : ps.length = qs.length := by have := congrArg List.length he; simpa using this
 have hpl : X0 (ps.map N9) = X0 (qs.map N9) := by rw [he]
 have hx : N9 (ps.getD (X0 (ps.map N9)) G7) = N9 (qs.getD (X0 (ps.map N9)) G7) := EL he hp
 have hx1 : (ps.getD (X0 (ps.map N9)) G7).1.2.2 = (qs.getD (X0 (ps.map N9)) G7).1.2.2 := congrArg (fun q : Pr => q.1) hx
 have hx2 : (ps.getD (X0 (ps.map N9)) G7).2.2.2 = (qs.getD (X0 (ps.map N9)) G7).2.2.2 := congrArg (fun q : Pr => q.2) hx
 have hpq : X0 (ps.map N9) < qs.length := by omega
 refine gw ?_
 refine z9 en (fun w hw => zdB A c ps hn hp w (Rd.ro hR w hw) (fun p q => ⟨Rd.ro (hP p q).1 w hw, Rd.ro (hP p q).2 w hw⟩) hl (hT.at hw)) ?_
 rintro v L' ⟨Oa, da, Ob, db, rfl, rfl⟩
 refine gw ?_
 intro b5
 refine j9 rfl (j5 (v := .agg #[sL Oa (ps.getD (X0 (ps.map N9)) G7).1.2.2.length da, sL Ob (ps.getD (X0 (ps.map N9)) G7).2.2.2.length db]) rfl rfl (by exact ce114) (by rfl) (by rfl) (gw ?_))
 refine u7 en (fun w hw => (by have h := ziK B e qs ow ow w (Rd.ro hR2 w hw) (fun p q => ⟨Rd.ro (hP2 p q).1 w hw, Rd.ro (hP2 p q).2 w hw⟩) hl2 (hT2.at hw); rw [← hpl] at h; exact h : cR 115 #[sL B qs.length e] w (iI ↑(X0 (ps.map N9))))) (gw ?_)
 refine e6 (Qt.dF (p9 (b := 0) rfl rfl) (Nat.not_lt_zero _)) (gw ?_)
 refine dw ([], []) (gw ?_)
 refine C2 6 rfl rfl (i5 uT cT rfl rfl ow (c9 hR2) (by rw [P4]; omega)) (C2 7 rfl rfl (z5 uT rfl ce112 rfl (c9 hR2) (by rw [P4]; omega)) (C2 8 rfl rfl (a8 rfl (A9 (v := sL (qs.getD (X0 (ps.map N9)) G7).1.1 (qs.getD (X0 (ps.map N9)) G7).1.2.2.length (qs.getD (X0 (ps.map N9)) G7).1.2.1) (c9 hR2) oT (cF hpq rfl 0 _ rfl))) (Q7 9 rfl rfl en (fun w hw => (by have h := oE Oa da (ps.getD (X0 (ps.map N9)) G7).1.2.2 (qs.getD (X0 (ps.map N9)) G7).1.1 (qs.getD (X0 (ps.map N9)) G7).1.2.1 (qs.getD (X0 (ps.map N9)) G7).1.2.2 w (Rd.own (e := 5) (sz := 1) (Rd.at 1 rfl) w hw) (Rd.ro (hP2 _ (K0 hpq)).1 w hw); rw [decide_eq_true hx1] at h; exact h : cR 49 #[sL Oa (ps.getD (X0 (ps.map N9)) G7).1.2.2.length da, sL (qs.getD (X0 (ps.map N9)) G7).1.1 (qs.getD (X0 (ps.map N9)) G7).1.2.2.length (qs.getD (X0 (ps.map N9)) G7).1.2.1] w (.bool true))) (gw ?_))))
 refine C2 16 rfl rfl (i5 uT cT rfl rfl ow (c9 hR2) (by rw [P4]; omega)) (C2 17 rfl rfl (z5 uT rfl ce112 rfl (c9 hR2) (by rw [P4]; omega)) (C2 18 rfl rfl (a8 rfl (A9 (v := sL (qs.getD (X0 (ps.map N9)) G7).2.1 (qs.getD (X0 (ps.map N9)) G7).2.2.2.length (qs.getD (X0 (ps.map N9)) G7).2.2.1) (c9 hR2) oT (cF hpq rfl 1 _ rfl))) (Q7 19 rfl rfl en (fun w hw => (by have h := oE Ob db (ps.getD (X0 (ps.map N9)) G7).2.2.2 (qs.getD (X0 (ps.map N9)) G7).2.1 (qs.getD (X0 (ps.map N9)) G7).2.2.1 (qs.getD (X0 (ps.map N9)) G7).2.2.2 w (Rd.own (e := 5) (sz := 1) (Rd.at 2 rfl) w hw) (Rd.ro (hP2 _ (K0 hpq)).2 w hw); rw [decide_eq_true hx2] at h; exact h : cR 49 #[sL Ob (ps.getD (X0 (ps.map N9)) G7).2.2.2.length db, sL (qs.getD (X0 (ps.map N9)) G7).2.1 (qs.getD (X0 (ps.map N9)) G7).2.2.2.length (qs.getD (X0 (ps.map N9)) G7).2.2.1] w (.bool true))) (gw ?_))))
 exact p7 (tR)
theorem zio (A) (c : Nat) (ps : List Px) (B) (e : Nat) (qs : List Px) (hn : ps.length ≤ 16384) (he : ps.map N9 = qs.map N9)  (w0) (hR : Ro w0 [] (SlA A (ps.flatMap aZ))) (hP : PxRo w0 [] ps) (hl : PxLe ps) (hR2 : Ro w0 [] (SlA B (qs.flatMap aZ))) (hP2 : PxRo w0 [] qs) (hl2 : PxLe qs) (hT : Tabs 3 1 w0 []) (hT2 : Tabs 2 0 w0 []) : cR 52 #[sL A ps.length c, sL B qs.length e] w0 (.bool true) := by
 by_cases hp : X0 (ps.map N9) < ps.length
 ·exact cQ (zct A c ps B e qs hn he hp w0 hR hP hl hR2 hP2 hl2 hT hT2)
 ·exact cQ (zcs A c ps B e qs hn he hp w0 hR hP hl hR2 hP2 hl2 hT hT2)
theorem JL (A) (c : Nat) (ps : List Px) (B) (e : Nat) (qs : List Px) (hn : ps.length ≤ 16384) (he : ps.map N9 = qs.map N9)  (w0) (hR : Ro w0 [] (SlA A (ps.flatMap aZ))) (hP : PxRo w0 [] ps) (hl : PxLe ps) (hR2 : Ro w0 [] (SlA B (qs.flatMap aZ))) (hP2 : PxRo w0 [] qs) (hl2 : PxLe qs) (hT : Tabs 3 1 w0 []) (hT2 : Tabs 2 0 w0 []) : cR 10 #[sL A ps.length c, sL B qs.length e] w0 (.bool true) := by
 refine cQ (co 59 [.tmp 4] func10 ?_)
 have hln : ps.length = qs.length := by have := congrArg List.length he; simpa using this
 have hpl : X0 (ps.map N9) = X0 (qs.map N9) := by rw [he]
 refine gw ?_
 refine e6 (Qt.dF (C7 rfl rfl) (fun h => h ow)) (gw ?_)
 refine l5 (γ := Nat) (mr 13 43 [4, 5]) (fun k => [(13, iI k)]) (fun _ => _) (fun k => k ≤ ps.length) (fun k => ps.length - k) (0)
  (Nat.zero_le _) oa sr ?_
 rintro k u hk
 refine gw ?_
 refine j0 rfl rfl (p9 rfl rfl) (fun h14 => ?_) (fun h14 => ?_)
 ·have hkp : k < ps.length := by omega
  have hkq : k < qs.length := by omega
  have hx : N9 (ps.getD k G7) = N9 (qs.getD k G7) := EL he hkp
  have hx1 : (ps.getD k G7).1.2.2 = (qs.getD k G7).1.2.2 := congrArg (fun q : Pr => q.1) hx
  have hx2 : (ps.getD k G7).2.2.2 = (qs.getD k G7).2.2.2 := congrArg (fun q : Pr => q.2) hx
  refine gw ?_
  refine dr ([], []) (gw ?_)
  refine c6 2 rfl (i5 uT cT rfl rfl ow (c9 hR) (by rw [P4]; omega)) (c6 3 rfl (z5 uT rfl ce112 rfl (c9 hR) (by rw [P4]; omega)) (c6 4 rfl (a8 rfl (A9 (v := sL (ps.getD k G7).1.1 (ps.getD k G7).1.2.2.length (ps.getD k G7).1.2.1) (c9 hR) oT (cF hkp rfl 0 _ rfl))) (gw ?_)))
  refine c6 7 rfl (i5 uT cT rfl rfl ow (c9 hR2) (by rw [P4]; omega)) (c6 8 rfl (z5 uT rfl ce112 rfl (c9 hR2) (by rw [P4]; omega)) (c6 9 rfl (a8 rfl (A9 (v := sL (qs.getD k G7).1.1 (qs.getD k G7).1.2.2.length (qs.getD k G7).1.2.1) (c9 hR2) oT (cF hkq rfl 0 _ rfl))) (I7 10 rfl en (fun w hw => (by have h := oE (ps.getD k G7).1.1 (ps.getD k G7).1.2.1 (ps.getD k G7).1.2.2 (qs.getD k G7).1.1 (qs.getD k G7).1.2.1 (qs.getD k G7).1.2.2 w (Rd.ro (hP _ (K0 hkp)).1 w hw) (Rd.ro (hP2 _ (K0 hkq)).1 w hw); rw [decide_eq_true hx1] at h; exact h : cR 49 #[sL (ps.getD k G7).1.1 (ps.getD k G7).1.2.2.length (ps.getD k G7).1.2.1, sL (qs.getD k G7).1.1 (qs.getD k G7).1.2.2.length (qs.getD k G7).1.2.1] w (.bool true))) (gw ?_))))
  refine C2 15 rfl rfl (i5 uT cT rfl rfl ow (c9 hR) (by rw [P4]; omega)) (C2 16 rfl rfl (z5 uT rfl ce112 rfl (c9 hR) (by rw [P4]; omega)) (C2 17 rfl rfl (a8 rfl (A9 (v := sL (ps.getD k G7).2.1 (ps.getD k G7).2.2.2.length (ps.getD k G7).2.2.1) (c9 hR) oT (cF hkp rfl 1 _ rfl))) (gw ?_)))
  refine C2 20 rfl rfl (i5 uT cT rfl rfl ow (c9 hR2) (by rw [P4]; omega)) (C2 21 rfl rfl (z5 uT rfl ce112 rfl (c9 hR2) (by rw [P4]; omega)) (C2 22 rfl rfl (a8 rfl (A9 (v := sL (qs.getD k G7).2.1 (qs.getD k G7).2.2.2.length (qs.getD k G7).2.2.1) (c9 hR2) oT (cF hkq rfl 1 _ rfl))) (Q7 23 rfl rfl en (fun w hw => (by have h := oE (ps.getD k G7).2.1 (ps.getD k G7).2.2.1 (ps.getD k G7).2.2.2 (qs.getD k G7).2.1 (qs.getD k G7).2.2.1 (qs.getD k G7).2.2.2 w (Rd.ro (hP _ (K0 hkp)).2 w hw) (Rd.ro (hP2 _ (K0 hkq)).2 w hw); rw [decide_eq_true hx2] at h; exact h : cR 49 #[sL (ps.getD k G7).2.1 (ps.getD k G7).2.2.2.length (ps.getD k G7).2.2.1, sL (qs.getD k G7).2.1 (qs.getD k G7).2.2.2.length (qs.getD k G7).2.2.1] w (.bool true))) (gw ?_))))
  refine C2 29 rfl rfl (i5 uT cT rfl rfl ow (c9 hR) (by rw [P4]; omega)) (C2 30 rfl rfl (a8 rfl (H4 (vs := aZ (ps.getD k G7)) (c9 hR) rT ce114 (Nat.zero_lt_succ _) (cF hkp rfl))) (Q7 31 rfl rfl en (fun w hw => cQ (qI (ps.getD k G7).1.1 (ps.getD k G7).1.2.1 (ps.getD k G7).1.2.2 (ps.getD k G7).2.1 (ps.getD k G7).2.2.1 (ps.getD k G7).2.2.2 w (Rd.ro (hP _ (K0 hkp)).1 w hw) (Rd.ro (hP _ (K0 hkp)).2 w hw) (hl _ (K0 hkp)).1 (hl _ (K0 hkp)).2 (hT.at hw))) (gw ?_)))
  refine C2 34 rfl rfl (i5 uT cT rfl rfl ow (c9 hR2) (by rw [P4]; omega)) (C2 35 rfl rfl (a8 rfl (H4 (vs := aZ (qs.getD k G7)) (c9 hR2) rT ce115 (Nat.zero_lt_succ _) (cF hkq rfl))) (Q7 36 rfl rfl en (fun w hw => cQ (qJ (qs.getD k G7).1.1 (qs.getD k G7).1.2.1 (qs.getD k G7).1.2.2 (qs.getD k G7).2.1 (qs.getD k G7).2.2.1 (qs.getD k G7).2.2.2 w (Rd.ro (hP2 _ (K0 hkq)).1 w hw) (Rd.ro (hP2 _ (K0 hkq)).2 w hw) (hl2 _ (K0 hkq)).1 (hl2 _ (K0 hkq)).2 (hT2.at hw))) ?_))
  refine C2 37 rfl rfl (n8 (v' := .bool false) (zi5 (a := zF ((ps.getD k G7).1.2.2, (ps.getD k G7).2.2.2)) (b := zF ((qs.getD k G7).1.2.2, (qs.getD k G7).2.2.2)) uT rfl rfl) (by rw [hx1, hx2, bne_self_eq_false])) (gw ?_)
  refine p7 (gw ?_)
  exact ⟨k + 1, od, od, oz, sr⟩
 ·refine gw ?_
  refine i7 (c8 (gw ?_))
  refine u7 en (fun w hw => zio A c ps B e qs hn he w (Rd.ro hR w hw) (fun p q => ⟨Rd.ro (hP p q).1 w hw, Rd.ro (hP p q).2 w hw⟩) hl (Rd.ro hR2 w hw) (fun p q => ⟨Rd.ro (hP2 p q).1 w hw, Rd.ro (hP2 p q).2 w hw⟩) hl2 (hT.at hw) (hT2.at hw)) (gw ?_)
  exact tR
theorem zik (x : i6) (A) (n c : Nat) : (vl (.agg (L8 x ++ [sL A n c]).toArray)).all (·.oneCell') = true := by
 rw [o6, List.all_append, Bool.and_eq_true]; exact ⟨Y4 x, rfl⟩
theorem zcm (A) (c : Nat) (xs : List Nat) (hx : xs.length ≤ 4096) (w0) (hR : Ro w0 [] (SlA A (w6 xs))) :
  cP 152 #[sL A xs.length c] w0 fun v L => ∃ O d, v = sL O xs.length d ∧ L = [OwnA 40 1 O xs.length d (w6 xs)] := by
 refine co 8 [.tmp 2] func152 ?_
 refine m6 40 1 (gw ?_)
 refine e6 (tM uT rfl) (gw ?_)
 refine eK rfl (fun hnl => gw ?_) (fun hnl => gw ?_)
 ·refine a9 (D7 sr ?_)
  obtain rfl : A = none := Option.isNone_iff_eq_none.1 hnl
  have h := dP hR.1
  obtain rfl : xs = [] := by cases xs with
   | nil => rfl
   | cons x xs => cases h
  exact ⟨none, 0, rfl, rfl⟩
 ·refine z7 (eH uT ⟨_, elem40⟩ (fun g5 => ?_))
  refine gw ?_
  refine z7 (Y6 (news := w6 xs) uT elem40 rfl rfl (c9 hR) (by rw [D5, Nat.mul_one]) (zhU _) kx ow (fun O d => ?_))
  refine gw ?_
  refine a9 (D7 (sk (sd sn)) ?_)
  exact ⟨O, d, by rw [Nat.zero_add]; rfl, by rw [Nat.zero_add, List.nil_append]⟩
theorem DW (E : Nat → i6) (tb mb gh : Nat) (ms : Tm) (hh : gh ≤ 32) (A) (c : Nat) (xs : List Nat) (hc : xs.length ≤ c) (hi : idxOk gh xs) (w0) (hB : Ro w0 [] (Blk tb 243 (q7 E gh mb))) (hM : Ro w0 [] (u6 mb p6 hv (ms))) (lw : lW xs) (hR : Ro w0 [] (SlA A (w6 xs))) :
  cP 94 #[pZ tb, sL A xs.length c] w0 fun v L => ∃ I i A1 a1 B1 b1, v = .tuple #[.agg #[sL I xs.length i, sL A1 xs.length a1, sL B1 (l7 gh xs 0).length b1], .nilIface] ∧ L = [OwnA 40 1 I xs.length i (w6 xs), OwnA 49 32 A1 xs.length a1 (m9 (xs.map (fun x => s4 E ms (0, x)))), OwnA 49 32 B1 (l7 gh xs 0).length b1 (m9 ((l7 gh xs 0).map (fun a => s4 E ms a)))] := by
 refine co 34 [.cell 4 194, .tmp 5] func94 ?_
 refine gw ?_
 intro b4
 refine gw ?_
 refine z9 en (fun w hw => sD E tb mb gh ms hh A c xs hc hi w (Rd.ro hB w hw) (Rd.ro hM w hw) lw (Rd.ro hR w hw)) ?_
 rintro v L' ⟨B1, b1, rfl, rfl⟩
 refine gw ?_
 refine z9 en (fun w hw => gN E tb mb gh ms hh A c xs hi w (Rd.ro hB w hw) (Rd.ro hM w hw) lw (Rd.ro hR w hw)) ?_
 rintro v L' ⟨A1, a1, rfl, rfl⟩
 refine gw ?_
 refine z9 en (fun w hw => zcm A c xs (by have := hi.2.1; omega) w (Rd.ro hR w hw)) ?_
 rintro v L' ⟨I, i, rfl, rfl⟩
 refine gw ?_
 refine e6 (n8 (F5 (vs := [sL I xs.length i, sL A1 xs.length a1, sL B1 (l7 gh xs 0).length b1]) (pls := #[(0, 1), (1, 1), (2, 1)]) uT (fun w => by kernel_rfl) ze194 rfl ⟨rfl, rfl, rfl, trivial⟩ rfl) (show _ = Value.agg #[sL I xs.length i, sL A1 xs.length a1, sL B1 (l7 gh xs 0).length b1] from rfl)) (j9 rfl (R5 rfl cw (by exact ce194) (by rfl) (by rfl) (gw ?_)))
 refine a9 (finQ.ret (j7 rfl (i4 tV rT (ce194)) rv) (sx [0, 0, 0]) ?_)
 exact ⟨I, i, A1, a1, B1, b1, rfl, rfl⟩
theorem DV (E : Nat → i6) (tb mb gh : Nat) (ms : Tm) (hh : gh ≤ 32) (b : Nat) (h1 : 1 ≤ b) (hb : b - 1 < 2 ^ gh) (w0) (hB : Ro w0 [] (Blk tb 243 (q7 E gh mb))) (hM : Ro w0 [] (u6 mb p6 hv (ms))) :
  cP 95 #[pZ tb, uI b] w0 fun v L => ∃ O d, v = .tuple #[.agg (L8 (s4 E ms (0, b - 1)) ++ [sL O gh d]).toArray, .nilIface] ∧ L = [OwnA 49 32 O gh d (m9 (cB E ms gh (b - 1)))] := by
 refine co 34 [.cell 4 198, .tmp 5] func95 ?_
 have hb32 := HE hh hb
 refine gw ?_
 intro b4
 refine gw ?_
 refine e6 (o7 (b := 1) rfl rfl ow km) (u7 en (fun w hw => JA E tb mb gh ms (b - 1) hh hb w (Rd.ro hB w hw) (Rd.ro hM w hw)) (gw ?_))
 intro b6
 refine j9 rfl (W9 _ rfl (gw ?_))
 refine e6 (o7 (b := 1) rfl rfl ow km) (z9 en (fun w hw => zfI E tb mb gh ms (b - 1) hh hb w (Rd.ro hB w hw) (Rd.ro hM w hw)) ?_)
 rintro v L' ⟨O, d, rfl, rfl⟩
 refine gw ?_
 refine e6 (n8 (F5 (vs := [hv (s4 E ms (0, b - 1)), sL O gh d]) (pls := #[(0, 32), (32, 1)]) uT (fun w => by kernel_rfl) ze198 rfl ⟨(by show some (0, 32) = some (0, _); rw [v9]), (by show some (32, 1) = some (0 + (vl (hv (s4 E ms (0, b - 1)))).length, _); rw [v9]; rfl), trivial⟩ (by show 33 = _; rw [List.flatMap_cons, List.flatMap_singleton, List.length_append, v9]; rfl)) (show _ = Value.agg (L8 (s4 E ms (0, b - 1)) ++ [sL O gh d]).toArray by rw [List.flatMap_cons, List.flatMap_singleton, mQ]; rfl)) ?_
 refine j9 rfl (K9 (v := .agg (L8 (s4 E ms (0, b - 1)) ++ [sL O gh d]).toArray) rfl rfl (by rw [o6, U6]; exact ce198) (zik _ _ _ _) (by rw [o6, U6]; rfl) (gw ?_))
 refine a9 (finQ.ret (j7 rfl (i4 aH rT (by rw [o6, U6]; exact ce198)) rv) (sx [0]) ?_)
 exact ⟨O, d, rfl, rfl⟩
theorem build99 (n sm tb : Nat) (w : World) : (Instr.build 160 #[(0, .int .u64 (n : Int)), (1, .map (some sm)), (2, .pointer (some ⟨tb, 0, none⟩))]).run prog w = .ok (.agg #[.int .u64 (n : Int), .map (some sm), .pointer (some ⟨tb, 0, none⟩)]) w := by kernel_rfl
theorem build47 (A : y8) (n c : Nat) (B : y8) (m d : Nat) (w : World) : (Instr.build 182 #[(0, .slice A n c), (1, .slice B m d)]).run prog w = .ok (.agg #[.slice A n c, .slice B m d]) w := by kernel_rfl
theorem uR (qb n sm tb : Nat) (w0) (hQ : Ro w0 [] (Blk qb 160 [uI n, .map (some sm), pZ tb])) : cR 27 #[pZ qb] w0 (uI n) := by
 refine cQ (co 9 [.tmp 2] func27 ?_)
 refine gw ?_
 exact tR
theorem sG (n : Nat) (h : ¬ fE n) (w0) :
  cP 21 #[uI n] w0 fun v L => v = .tuple #[.pointer none, .iface 73 (iI 1)] ∧ L = [] := by
 refine co 28 [.tmp 2, .tmp 3] func21 ?_
 refine gw ?_
 refine u7 en (fun w hw => vP n h w) (gw ?_)
 exact tR
theorem wC (E : Nat → i6) (hEm : ∀ w, Tabs 3 1 w [] → cR 55 #[] w (.agg (m9 (H3 E)).toArray)) (n : Nat) (h : fE n) (w0) (hT : Tabs 3 1 w0 []) :
  cP 21 #[uI n] w0 fun v L => ∃ qb sm tb mb, v = .tuple #[pZ qb, .nilIface] ∧ L = [Blk qb 160 [uI n, .map (some sm), pZ tb], u6 sm Q9 sv [], Blk tb 243 (q7 E (s7 n) mb), u6 mb p6 hv []] := by
 refine co 28 [.tmp 2, .tmp 3] func21 ?_
 refine gw ?_
 refine u7 en (fun w hw => oR n h w) (gw ?_)
 refine z9 en (fun w hw => DX E hEm (s7 n) (aL h) w (hT.at hw)) ?_
 rintro v L' ⟨tb, mb, rfl, rfl⟩
 refine gw ?_
 refine z7 (rG (enc := Q9) (encv := sv) (fun sm => (gw ?_)))
 refine e6 (yK (a := uI n) (b := .map (some sm)) (c := pZ tb) rfl rfl rfl (build99 _ _ _)) (gw ?_)
 intro b27
 refine gw ?_
 refine a9 (finQ.ret rv sr ?_)
 exact ⟨b27, sm, tb, mb, rfl, rfl⟩
theorem tE (E : Nat → i6) (n : Nat) (hn : fE n) (qb sm tb mb : Nat) (ms : Tm) (A : y8) (c : Nat) (B : y8) (d : Nat) (o : Order) (hxc : o.xs.length ≤ c) (hss : o.ss.length ≤ 65536) (hxx : o.xs.length ≤ 65536) (hob : o.blocks < 18446744073709551616) (rs : List Value) (err : Int) (P : y8) (p : Nat) (pa : List i6) (Q : y8) (q : Nat) (pb : List i6) (hrl : rs.length = 29) (hr1 : rs.all (·.oneCell') = true) (hre : rs[2]? = some (.int .i64 err)) (hra : rs[27]? = some (.slice P pa.length p)) (hrb : rs[28]? = some (.slice Q pb.length q)) (hp : pa.length ≤ p) (hq : pb.length ≤ q) (w0 : World) (hQ : Ro w0 [] (Blk qb 160 [.int .u64 (n : Int), .map (some sm), .pointer (some ⟨tb, 0, none⟩)])) (hB : Ro w0 [] (Blk tb 243 (q7 E (s7 n) mb))) (hM : Ro w0 [] (u6 mb p6 hv ms)) (lw : ∀ x ∈ o.xs, x < 18446744073709551616) (hR : Ro w0 [] (SlA A (w6 o.xs))) (hS : Ro w0 [] (SlA B (o.ss.flatMap o4))) (hPa : Ro w0 [] (SlA P (m9 pa))) (hPb : Ro w0 [] (SlA Q (m9 pb))) (hT : Tabs 3 1 w0 []) :
    Calls prog 35 #[.pointer (some ⟨qb, 0, none⟩), .agg (G3 A c B d o).toArray, .agg rs.toArray] w0 (D0 w0 [] fun v L => fF 114 (gD (fun x => s4 E ms (0, x)) (fun a => s4 E ms a) (fun i => cB E ms (s7 n) i) n o err pa pb) v L) := by
  refine N4 (L := []) (n := 100) (rs := [.tmp 6]) func35 rfl rfl rfl (Nat.le_of_ble_eq_true rfl) (Sat.nil _) ?_
  refine m6 114 2 ?_
  refine x3 ?_
  have hh := aL hn
  refine c8 ?_
  refine c7 ?_
  refine z7 (iR (v := .agg (G3 A c B d o).toArray) rfl (fun b4 => ?_))
  refine z7 (iR (v := .agg rs.toArray) rfl (fun b5 => ?_))
  refine C3 ?_
  refine l3 ?_
  refine c8 ?_
  refine C5 ?_
  refine c8 ?_
  refine dw ([], []) ?_
  refine c6 0 rfl (m8 cw) ?_
  refine c6 1 rfl (fO uT rfl) ?_
  refine c6 2 rfl (m8 cw) ?_
  refine C2 3 rfl rfl (x9 uT rfl ce3 rfl) ?_
  refine C2 4 rfl rfl (a8 rfl (i9 (v := .int .i64 err) w5 oT hre)) ?_
  refine dN (k := 5) rfl (by kernel_rfl) (by kernel_rfl) (by kernel_rfl) rfl rfl rfl (dG rfl rfl) (fun h17 => ?_) (fun h17 => ?_)
  · refine c6 6 rfl (X7 rfl cw) ?_
    refine c6 7 rfl (m8 cw) ?_
    refine uH 8 rfl rfl ?_
    refine uH 9 rfl rfl ?_
    refine uH 10 rfl rfl ?_
    refine uH 11 rfl rfl ?_
    refine uH 12 rfl rfl ?_
    refine uH 13 rfl rfl ?_
    refine uH 14 rfl rfl ?_
    refine c6 15 rfl (gT rfl cw) ?_
    refine c6 16 rfl (G9 cw) ?_
    refine R2 sn (by kernel_rfl) ?_
    refine Q3 rfl ?_
    refine c8 ?_
    refine c7 ?_
    refine C3 ?_
    refine l3 ?_
    refine a9 (finQ.ret rv (Sub.trans (sk (sk (sd (sd I8)))) (Sub.trans (sk (Sub.trans (sk sr) (e5 pm2))) (e5 pm3))) ?_)
    exact ⟨none, 0, [], [], rfl, rfl, (bK (.inl h17)).symm, Nat.zero_le _, fun p hp => nomatch hp⟩
  · refine c6 6 rfl (X7 rfl cw) ?_
    refine c6 7 rfl (m8 cw) ?_
    refine C2 8 rfl rfl (a8 rfl (i4 (vs := (G3 A c B d o)) N3 rT ce58)) ?_
    refine C2 9 rfl rfl (m8 cw) ?_
    refine C2 10 rfl rfl (H8 rfl) ?_
    refine C2 11 rfl rfl (x9 uT rfl ce40 rfl) ?_
    refine C2 12 rfl rfl (a8 rfl (i9 (v := .int .u64 (n : Int)) (c9 hQ) oT rfl)) ?_
    by_cases hf : T6 o n
    · refine IE (k := 13) rfl (by kernel_rfl) (by kernel_rfl) (by kernel_rfl) rfl rfl rfl (dZ J93 rfl (fun w hw => (by have h := kG A c B d o hss hxx n w lw (Rd.ro hR w hw) (Rd.ro hS w hw); rw [decide_eq_true hf] at h; exact h : Calls prog 93 #[.agg (G3 A c B d o).toArray, .int .u64 (n : Int)] w (nX w (.bool true))))) ?_
      refine C2 14 rfl rfl (uO rfl) ?_
      refine c6 15 rfl (X7 rfl cw) ?_
      refine c6 16 rfl (G9 cw) ?_
      refine R2 sn (by kernel_rfl) ?_
      refine C4 rfl ?_
      refine c8 ?_
      refine c7 ?_
      refine e6 (x9 uT rfl ce3 rfl) ?_
      refine e6 (a8 rfl (i9 (v := .int .i64 o.kind) N3 oT rfl)) ?_
      refine j0 rfl rfl (dG rfl rfl) (fun h31 => ?_) (fun h31 => ?_)
      · refine C3 ?_
        refine l3 ?_
        refine Q3 rfl ?_
        refine c8 ?_
        refine dr ([11], [6, 10]) ?_
        refine c6 0 rfl (m8 cw) ?_
        refine c6 1 rfl (H8 rfl) ?_
        refine c6 2 rfl (x9 uT rfl ce155 rfl) ?_
        refine c6 3 rfl (a8 rfl (i9 (v := .pointer (some ⟨tb, 0, none⟩)) (c9 hQ) oT rfl)) ?_
        refine c6 4 rfl (x9 uT rfl ce22 rfl) ?_
        refine c6 5 rfl (a8 rfl (i9 (v := .slice A o.xs.length c) N3 oT rfl)) ?_
        refine AZ (k1 := 6) (k2 := 10) sr rfl rfl (by kernel_rfl) (by kernel_rfl) rfl rfl rfl rfl ?_ ?_
        · refine (l8 (Pre := []) (R := _) J94 rfl pr (fun w hw => DW E tb mb (s7 n) ms hh A c o.xs hxc (gZ hn hf h31) w (Rd.ro hB w hw) (Rd.ro hM w hw) lw (Rd.ro hR w hw)) ?_)
          rintro v L' ⟨I, i, A1, a1, B1, b1, rfl, rfl⟩
          refine ⟨sd (sd (sd (sk (sk (sk (sk I8)))))), ?_⟩
          refine c6 7 rfl (m8 cw) ?_
          refine c6 8 rfl (s8 rfl rfl) ?_
          refine jU 9 rfl (s8 rfl rfl) ?_
          refine tH (k := 10) (sd (sd (sd (sk (sk (sk (sk I8))))))) rfl (by kernel_rfl) (by kernel_rfl) rfl rfl (z4 zT (fun b7 => ⟨sd sr, ?_⟩))
          refine fH (k := 11) (sd (sd (sd (sd (sk (sk (sk (sk I8)))))))) rfl (by kernel_rfl) (by kernel_rfl) rfl (j5 (v := .agg #[.slice I o.xs.length i, .slice A1 o.xs.length a1, .slice B1 (l7 (s7 n) o.xs 0).length b1]) rfl rfl (by exact ce194) (by rfl) (by rfl) ⟨sd (sd (sd (sd (sk (sk (sk (sk I8))))))), ?_⟩)
          refine c6 12 rfl (G9 cw) ?_
          refine R2 (sd (sd (sd (sd (sk (sk (sk (sk I8)))))))) (by kernel_rfl) ?_
          refine c8 ?_
          refine c8 ?_
          refine c7 ?_
          refine o8 ?_
          refine e6 (F0 uT rfl) ?_
          refine l3 ?_
          refine C4 rfl ?_
          refine w8 ?_
          refine c8 ?_
          refine dw ([], [17]) ?_
          refine c6 0 rfl (m8 cw) ?_
          refine c6 1 rfl (H8 rfl) ?_
          refine c6 2 rfl (x9 uT rfl ce155 rfl) ?_
          refine c6 3 rfl (a8 rfl (i9 (v := .pointer (some ⟨tb, 0, none⟩)) (c9 hQ) oT rfl)) ?_
          refine KN (k := 4) rfl (by kernel_rfl) (by kernel_rfl) (by kernel_rfl) rfl rfl (dZ J80 rfl (fun w hw => M4 E tb mb (s7 n) w (Rd.ro hB w hw))) ?_
          refine c6 5 rfl (x9 uT rfl ce22 rfl) ?_
          refine c6 6 rfl (a8 rfl (i9 (v := .slice A o.xs.length c) (s6 5 rfl) oT rfl)) ?_
          refine c6 7 rfl (x9 uT rfl ce33 rfl) ?_
          refine c6 8 rfl (a8 rfl (i9 (v := .slice A1 o.xs.length a1) w5 oT rfl)) ?_
          refine c6 9 rfl (x9 uT rfl ce33 rfl) ?_
          refine c6 10 rfl (a8 rfl (i9 (v := .slice B1 (l7 (s7 n) o.xs 0).length b1) w5 oT rfl)) ?_
          refine c6 11 rfl (A5 (a := .slice A1 o.xs.length a1) (b := .slice B1 (l7 (s7 n) o.xs 0).length b1) rfl rfl (build47 _ _ _ _ _ _)) ?_
          refine c6 12 rfl (x9 uT rfl ce33 rfl) ?_
          refine c6 13 rfl (a8 rfl (i9 (v := .slice P pa.length p) (s6 4 rfl) oT hra)) ?_
          refine c6 14 rfl (x9 uT rfl ce33 rfl) ?_
          refine c6 15 rfl (a8 rfl (i9 (v := .slice Q pb.length q) (s6 4 rfl) oT hrb)) ?_
          refine c6 16 rfl (A5 (a := .slice P pa.length p) (b := .slice Q pb.length q) rfl rfl (build47 _ _ _ _ _ _)) ?_
          refine tH (k := 17) sn rfl (by kernel_rfl) (by kernel_rfl) rfl rfl (l8 (Pre := []) (R := _) J84 rfl pr (fun w hw => (by have k := jF (s7 n : Int) A c o.xs hxc A1 a1 (o.xs.map (fun x => s4 E ms (0, x))) B1 b1 ((l7 (s7 n) o.xs 0).map (fun a => s4 E ms a)) P p pa Q q pb (by rw [List.length_map]; exact (H2 (hw.ok (List.mem_of_getElem? (i := 2) rfl))).1) (by rw [List.length_map]; exact (H2 (hw.ok (List.mem_of_getElem? (i := 3) rfl))).1) hp hq w lw (Rd.ro hR w hw) (Rd.own (Rd.at 2 rfl) w hw) (Rd.own (Rd.at 3 rfl) w hw) (Rd.ro hPa w hw) (Rd.ro hPb w hw) (hT.at hw); simp only [List.length_map] at k; exact k : Calls prog 84 #[.int .i64 (s7 n : Int), .slice A o.xs.length c, .agg #[.slice A1 o.xs.length a1, .slice B1 (l7 (s7 n) o.xs 0).length b1], .agg #[.slice P pa.length p, .slice Q pb.length q]] w (D0 w [] fun v L => fF 114 (D4 (I3 (s7 n : Int) o.xs (o.xs.map (fun x => s4 E ms (0, x))) ((l7 (s7 n) o.xs 0).map (fun a => s4 E ms a))) (I3 (s7 n : Int) o.xs pa pb)) v L))) ?_)
          rintro v L' ⟨O, d2, pp, Ls, rfl, rfl, q1, q2, q3⟩
          refine ⟨sd (sd (sk (sk (sk (sk (sk (sk (sk (sk I8))))))))), ?_⟩
          refine c6 18 rfl (G9 cw) ?_
          refine R2 sn (by kernel_rfl) ?_
          refine a9 (finQ.ret rv (sk (sk (sd (sd (sd (sd (sd (sd (sd (sd I8)))))))))) ?_)
          refine ⟨O, d2, pp, Ls, rfl, rfl, ?_, q2, q3⟩
          rw [cL h17 hf h31]; exact q1
        · refine (z4 zT (fun b7 => ⟨sd sr, ?_⟩))
          refine tH (k := 6) (sd (sk (sk (sk (sk I8))))) rfl (by kernel_rfl) (by kernel_rfl) rfl rfl (l8 (Pre := []) (R := _) J94 rfl pr (fun w hw => DW E tb mb (s7 n) ms hh A c o.xs hxc (gZ hn hf h31) w (Rd.ro hB w hw) (Rd.ro hM w hw) lw (Rd.ro hR w hw)) ?_)
          rintro v L' ⟨I, i, A1, a1, B1, b1, rfl, rfl⟩
          refine ⟨sd (sd (sd (sk (sk (sk (sk (sk I8))))))), ?_⟩
          refine c6 7 rfl (m8 cw) ?_
          refine c6 8 rfl (s8 rfl rfl) ?_
          refine jU 9 rfl (s8 rfl rfl) ?_
          refine fH (k := 11) (sd (sd (sd (sd (sk (sk (sk (sk I8)))))))) rfl (by kernel_rfl) (by kernel_rfl) rfl (R5 (v := .agg #[.slice I o.xs.length i, .slice A1 o.xs.length a1, .slice B1 (l7 (s7 n) o.xs 0).length b1]) rfl rfl (by exact ce194) (by rfl) (by rfl) ⟨sd (sd (sd (sd (sk (sk (sk (sk I8))))))), ?_⟩)
          refine c6 12 rfl (G9 cw) ?_
          refine R2 (sd (sd (sd (sd (sk (sk (sk (sk I8)))))))) (by kernel_rfl) ?_
          refine c8 ?_
          refine c8 ?_
          refine c7 ?_
          refine o8 ?_
          refine e6 (F0 uT rfl) ?_
          refine l3 ?_
          refine C4 rfl ?_
          refine w8 ?_
          refine c8 ?_
          refine dw ([], [17]) ?_
          refine c6 0 rfl (m8 cw) ?_
          refine c6 1 rfl (H8 rfl) ?_
          refine c6 2 rfl (x9 uT rfl ce155 rfl) ?_
          refine c6 3 rfl (a8 rfl (i9 (v := .pointer (some ⟨tb, 0, none⟩)) (c9 hQ) oT rfl)) ?_
          refine KN (k := 4) rfl (by kernel_rfl) (by kernel_rfl) (by kernel_rfl) rfl rfl (dZ J80 rfl (fun w hw => M4 E tb mb (s7 n) w (Rd.ro hB w hw))) ?_
          refine c6 5 rfl (x9 uT rfl ce22 rfl) ?_
          refine c6 6 rfl (a8 rfl (i9 (v := .slice A o.xs.length c) (s6 5 rfl) oT rfl)) ?_
          refine c6 7 rfl (x9 uT rfl ce33 rfl) ?_
          refine c6 8 rfl (a8 rfl (i9 (v := .slice A1 o.xs.length a1) tV oT rfl)) ?_
          refine c6 9 rfl (x9 uT rfl ce33 rfl) ?_
          refine c6 10 rfl (a8 rfl (i9 (v := .slice B1 (l7 (s7 n) o.xs 0).length b1) tV oT rfl)) ?_
          refine c6 11 rfl (A5 (a := .slice A1 o.xs.length a1) (b := .slice B1 (l7 (s7 n) o.xs 0).length b1) rfl rfl (build47 _ _ _ _ _ _)) ?_
          refine c6 12 rfl (x9 uT rfl ce33 rfl) ?_
          refine c6 13 rfl (a8 rfl (i9 (v := .slice P pa.length p) (s6 4 rfl) oT hra)) ?_
          refine c6 14 rfl (x9 uT rfl ce33 rfl) ?_
          refine c6 15 rfl (a8 rfl (i9 (v := .slice Q pb.length q) (s6 4 rfl) oT hrb)) ?_
          refine c6 16 rfl (A5 (a := .slice P pa.length p) (b := .slice Q pb.length q) rfl rfl (build47 _ _ _ _ _ _)) ?_
          refine tH (k := 17) sn rfl (by kernel_rfl) (by kernel_rfl) rfl rfl (l8 (Pre := []) (R := _) J84 rfl pr (fun w hw => (by have k := jF (s7 n : Int) A c o.xs hxc A1 a1 (o.xs.map (fun x => s4 E ms (0, x))) B1 b1 ((l7 (s7 n) o.xs 0).map (fun a => s4 E ms a)) P p pa Q q pb (by rw [List.length_map]; exact (H2 (hw.ok (List.mem_of_getElem? (i := 1) rfl))).1) (by rw [List.length_map]; exact (H2 (hw.ok (List.mem_of_getElem? (i := 2) rfl))).1) hp hq w lw (Rd.ro hR w hw) (Rd.own (Rd.at 1 rfl) w hw) (Rd.own (Rd.at 2 rfl) w hw) (Rd.ro hPa w hw) (Rd.ro hPb w hw) (hT.at hw); simp only [List.length_map] at k; exact k : Calls prog 84 #[.int .i64 (s7 n : Int), .slice A o.xs.length c, .agg #[.slice A1 o.xs.length a1, .slice B1 (l7 (s7 n) o.xs 0).length b1], .agg #[.slice P pa.length p, .slice Q pb.length q]] w (D0 w [] fun v L => fF 114 (D4 (I3 (s7 n : Int) o.xs (o.xs.map (fun x => s4 E ms (0, x))) ((l7 (s7 n) o.xs 0).map (fun a => s4 E ms a))) (I3 (s7 n : Int) o.xs pa pb)) v L))) ?_)
          rintro v L' ⟨O, d2, pp, Ls, rfl, rfl, q1, q2, q3⟩
          refine ⟨sd (sd (sk (sk (sk (sk (sk (sk (sk (sk I8))))))))), ?_⟩
          refine c6 18 rfl (G9 cw) ?_
          refine R2 sn (by kernel_rfl) ?_
          refine a9 (finQ.ret rv (sk (sk (sd (sd (sd (sd (sd (sd (sd (sd I8)))))))))) ?_)
          refine ⟨O, d2, pp, Ls, rfl, rfl, ?_, q2, q3⟩
          rw [cL h17 hf h31]; exact q1
      · refine C3 ?_
        refine l3 ?_
        refine C4 rfl ?_
        refine c8 ?_
        refine dw ([], []) ?_
        refine c6 0 rfl (x9 uT rfl ce40 rfl) ?_
        refine c6 1 rfl (a8 rfl (i9 (v := .int .u64 (o.blocks : Int)) N3 oT rfl)) ?_
        refine c6 2 rfl (m8 cw) ?_
        refine c6 3 rfl (H8 rfl) ?_
        refine c6 4 rfl (x9 uT rfl ce40 rfl) ?_
        refine c6 5 rfl (a8 rfl (i9 (v := .int .u64 (n : Int)) (c9 hQ) oT rfl)) ?_
        refine aY (k := 6) rfl (by kernel_rfl) (by kernel_rfl) (by kernel_rfl) rfl rfl (p9 rfl rfl) (fun h69 => ?_) (fun h69 => ?_)
        · refine c6 7 rfl (m8 cw) ?_
          refine C2 8 rfl rfl (x9 uT rfl ce33 rfl) ?_
          refine C2 9 rfl rfl (a8 rfl (i9 (v := .slice P pa.length p) w5 oT hra)) ?_
          refine C2 10 rfl rfl (D6 uT rfl) ?_
          refine dN (k := 11) rfl (by kernel_rfl) (by kernel_rfl) (by kernel_rfl) rfl rfl rfl (z6 (b := 1) rfl rfl) (fun h74 => ?_) (fun h74 => ?_)
          · refine c6 12 rfl (gT rfl cw) ?_
            refine c6 13 rfl (G9 cw) ?_
            refine R2 sn (by kernel_rfl) ?_
            refine Q3 rfl ?_
            refine c8 ?_
            refine dr ([11], [6, 10]) ?_
            refine c6 0 rfl (m8 cw) ?_
            refine c6 1 rfl (H8 rfl) ?_
            refine c6 2 rfl (x9 uT rfl ce155 rfl) ?_
            refine c6 3 rfl (a8 rfl (i9 (v := .pointer (some ⟨tb, 0, none⟩)) (c9 hQ) oT rfl)) ?_
            refine c6 4 rfl (x9 uT rfl ce40 rfl) ?_
            refine c6 5 rfl (a8 rfl (i9 (v := .int .u64 (o.blocks : Int)) N3 oT rfl)) ?_
            refine AZ (k1 := 6) (k2 := 10) sr rfl rfl (by kernel_rfl) (by kernel_rfl) rfl rfl rfl rfl ?_ ?_
            · refine (l8 (Pre := []) (R := _) J95 rfl pr (fun w hw => DV E tb mb (s7 n) ms hh o.blocks (N5 hf (Decidable.not_not.1 h31)).1 (by have := gK hn; have := (N5 hf (Decidable.not_not.1 h31)).1; omega) w (Rd.ro hB w hw) (Rd.ro hM w hw)) ?_)
              rintro v L' ⟨Pq, pq, rfl, rfl⟩
              refine ⟨sd (sk (sk (sk (sk I8)))), ?_⟩
              refine c6 7 rfl (m8 cw) ?_
              refine c6 8 rfl (s8 rfl rfl) ?_
              refine jU 9 rfl (s8 rfl rfl) ?_
              refine tH (k := 10) (sd (sk (sk (sk (sk I8))))) rfl (by kernel_rfl) (by kernel_rfl) rfl rfl (z4 zT (fun b9 => ⟨sd sr, ?_⟩))
              refine fH (k := 11) (sd (sd (sk (sk (sk (sk I8)))))) rfl (by kernel_rfl) (by kernel_rfl) rfl (j5 (v := .agg (L8 (s4 E ms (0, o.blocks - 1)) ++ [Value.slice Pq (s7 n) pq]).toArray) rfl rfl (by rw [o6, U6]; exact ce198) (by rw [o6, List.all_append, Y4]; rfl) (by rw [o6, U6]; rfl) ⟨sd (sd (sk (sk (sk (sk I8))))), ?_⟩)
              refine c6 12 rfl (G9 cw) ?_
              refine R2 (sd (sd (sk (sk (sk (sk I8)))))) (by kernel_rfl) ?_
              refine c8 ?_
              refine c8 ?_
              refine c7 ?_
              refine o8 ?_
              refine e6 (F0 uT rfl) ?_
              refine l3 ?_
              refine C4 rfl ?_
              refine w8 ?_
              refine c8 ?_
              refine dw ([], [11]) ?_
              refine c6 0 rfl (x9 uT rfl ce40 rfl) ?_
              refine c6 1 rfl (a8 rfl (i9 (v := .int .u64 (o.blocks : Int)) tV oT rfl)) ?_
              refine c6 2 rfl (o7 (b := 1) rfl rfl (by have := (N5 hf (Decidable.not_not.1 h31)).1; omega) km) ?_
              refine c6 3 rfl (a8 rfl (i4 (vs := vl (.agg (L8 (s4 E ms (0, o.blocks - 1)) ++ [Value.slice Pq (s7 n) pq]).toArray)) w5 rT (by rw [o6, U6]; exact ce198))) ?_
              refine c6 4 rfl (x9 uT rfl ce33 rfl) ?_
              refine c6 5 rfl (a8 rfl (i9 (v := .slice P pa.length p) aH oT hra)) ?_
              refine c6 6 rfl (i5 (i := 0) uT cT rfl rfl ow (c9 hPa) (by rw [m7]; omega)) ?_
              refine c6 7 rfl (a8 rfl (E4 (c9 hPa) 0 rT ce49 ow rfl)) ?_
              refine c6 8 rfl (x9 uT rfl ce33 rfl) ?_
              refine c6 9 rfl (a8 rfl (i9 (v := .slice Q pb.length q) aH oT hrb)) ?_
              refine c6 10 rfl (n8 (F5 (vs := [hv ((pa.getD 0 e7)), .slice Q pb.length q]) (pls := #[(0, 32), (32, 1)]) uT (fun w => by kernel_rfl) ze198 rfl ⟨(by show some (0, 32) = some (0, _); rw [v9]), (by show some (32, 1) = some (0 + (vl (hv ((pa.getD 0 e7)))).length, _); rw [v9]; rfl), trivial⟩ (by show 33 = _; rw [List.flatMap_cons, List.flatMap_singleton, List.length_append, v9]; rfl)) (show _ = Value.agg (L8 ((pa.getD 0 e7)) ++ [Value.slice Q pb.length q]).toArray by rw [List.flatMap_cons, List.flatMap_singleton, mQ]; rfl)) ?_
              refine tH (k := 11) sn rfl (by kernel_rfl) (by kernel_rfl) rfl rfl (l8 (Pre := []) (R := _) J96 rfl pr (fun w hw => (by have k := sO (o.blocks - 1) ow (s4 E ms (0, o.blocks - 1)) Pq pq (cB E ms (s7 n) (o.blocks - 1)) (pa.getD 0 e7) Q q pb w (Rd.own (Rd.at 1 rfl) w hw) (Rd.ro hPb w hw) (hT.at hw); rw [pJ] at k; exact k : Calls prog 96 #[.int .u64 ((o.blocks - 1 : Nat) : Int), .agg (L8 (s4 E ms (0, o.blocks - 1)) ++ [Value.slice Pq (s7 n) pq]).toArray, .agg (L8 (pa.getD 0 e7) ++ [Value.slice Q pb.length q]).toArray] w (D0 w [] fun v L => fF 114 (D4 (S6 (s4 E ms (0, o.blocks - 1)) (o.blocks - 1) (cB E ms (s7 n) (o.blocks - 1))) (S6 (pa.getD 0 e7) (o.blocks - 1) pb)) v L))) ?_)
              rintro v L' ⟨O, d2, pp, Ls, rfl, rfl, q1, q2, q3⟩
              refine ⟨sd (sd (sk (sk (sk (sk (sk (sk I8))))))), ?_⟩
              refine c6 12 rfl (G9 cw) ?_
              refine R2 sn (by kernel_rfl) ?_
              refine a9 (finQ.ret rv (sk (sk (sd (sd (sd (sd (sd (sd I8)))))))) ?_)
              refine ⟨O, d2, pp, Ls, rfl, rfl, ?_, q2, q3⟩
              rw [fB h17 hf h31 h69 h74]; exact q1
            · refine (z4 zT (fun b9 => ⟨sd sr, ?_⟩))
              refine tH (k := 6) (sd (sk (sk (sk (sk I8))))) rfl (by kernel_rfl) (by kernel_rfl) rfl rfl (l8 (Pre := []) (R := _) J95 rfl pr (fun w hw => DV E tb mb (s7 n) ms hh o.blocks (N5 hf (Decidable.not_not.1 h31)).1 (by have := gK hn; have := (N5 hf (Decidable.not_not.1 h31)).1; omega) w (Rd.ro hB w hw) (Rd.ro hM w hw)) ?_)
              rintro v L' ⟨Pq, pq, rfl, rfl⟩
              refine ⟨sd (sk (sk (sk (sk (sk I8))))), ?_⟩
              refine c6 7 rfl (m8 cw) ?_
              refine c6 8 rfl (s8 rfl rfl) ?_
              refine jU 9 rfl (s8 rfl rfl) ?_
              refine fH (k := 11) (sd (sd (sk (sk (sk (sk I8)))))) rfl (by kernel_rfl) (by kernel_rfl) rfl (F9 (v := .agg (L8 (s4 E ms (0, o.blocks - 1)) ++ [Value.slice Pq (s7 n) pq]).toArray) rfl rfl (by rw [o6, U6]; exact ce198) (by rw [o6, List.all_append, Y4]; rfl) (by rw [o6, U6]; rfl) ⟨sd (sd (sk (sk (sk (sk I8))))), ?_⟩)
              refine c6 12 rfl (G9 cw) ?_
              refine R2 (sd (sd (sk (sk (sk (sk I8)))))) (by kernel_rfl) ?_
              refine c8 ?_
              refine c8 ?_
              refine c7 ?_
              refine o8 ?_
              refine e6 (F0 uT rfl) ?_
              refine l3 ?_
              refine C4 rfl ?_
              refine w8 ?_
              refine c8 ?_
              refine dw ([], [11]) ?_
              refine c6 0 rfl (x9 uT rfl ce40 rfl) ?_
              refine c6 1 rfl (a8 rfl (i9 (v := .int .u64 (o.blocks : Int)) tV oT rfl)) ?_
              refine c6 2 rfl (o7 (b := 1) rfl rfl (by have := (N5 hf (Decidable.not_not.1 h31)).1; omega) km) ?_
              refine c6 3 rfl (a8 rfl (i4 (vs := vl (.agg (L8 (s4 E ms (0, o.blocks - 1)) ++ [Value.slice Pq (s7 n) pq]).toArray)) N3 rT (by rw [o6, U6]; exact ce198))) ?_
              refine c6 4 rfl (x9 uT rfl ce33 rfl) ?_
              refine c6 5 rfl (a8 rfl (i9 (v := .slice P pa.length p) aH oT hra)) ?_
              refine c6 6 rfl (i5 (i := 0) uT cT rfl rfl ow (c9 hPa) (by rw [m7]; omega)) ?_
              refine c6 7 rfl (a8 rfl (E4 (c9 hPa) 0 rT ce49 ow rfl)) ?_
              refine c6 8 rfl (x9 uT rfl ce33 rfl) ?_
              refine c6 9 rfl (a8 rfl (i9 (v := .slice Q pb.length q) aH oT hrb)) ?_
              refine c6 10 rfl (n8 (F5 (vs := [hv ((pa.getD 0 e7)), .slice Q pb.length q]) (pls := #[(0, 32), (32, 1)]) uT (fun w => by kernel_rfl) ze198 rfl ⟨(by show some (0, 32) = some (0, _); rw [v9]), (by show some (32, 1) = some (0 + (vl (hv ((pa.getD 0 e7)))).length, _); rw [v9]; rfl), trivial⟩ (by show 33 = _; rw [List.flatMap_cons, List.flatMap_singleton, List.length_append, v9]; rfl)) (show _ = Value.agg (L8 ((pa.getD 0 e7)) ++ [Value.slice Q pb.length q]).toArray by rw [List.flatMap_cons, List.flatMap_singleton, mQ]; rfl)) ?_
              refine tH (k := 11) sn rfl (by kernel_rfl) (by kernel_rfl) rfl rfl (l8 (Pre := []) (R := _) J96 rfl pr (fun w hw => (by have k := sO (o.blocks - 1) ow (s4 E ms (0, o.blocks - 1)) Pq pq (cB E ms (s7 n) (o.blocks - 1)) (pa.getD 0 e7) Q q pb w (Rd.own (Rd.at 0 rfl) w hw) (Rd.ro hPb w hw) (hT.at hw); rw [pJ] at k; exact k : Calls prog 96 #[.int .u64 ((o.blocks - 1 : Nat) : Int), .agg (L8 (s4 E ms (0, o.blocks - 1)) ++ [Value.slice Pq (s7 n) pq]).toArray, .agg (L8 (pa.getD 0 e7) ++ [Value.slice Q pb.length q]).toArray] w (D0 w [] fun v L => fF 114 (D4 (S6 (s4 E ms (0, o.blocks - 1)) (o.blocks - 1) (cB E ms (s7 n) (o.blocks - 1))) (S6 (pa.getD 0 e7) (o.blocks - 1) pb)) v L))) ?_)
              rintro v L' ⟨O, d2, pp, Ls, rfl, rfl, q1, q2, q3⟩
              refine ⟨sd (sd (sk (sk (sk (sk (sk (sk I8))))))), ?_⟩
              refine c6 12 rfl (G9 cw) ?_
              refine R2 sn (by kernel_rfl) ?_
              refine a9 (finQ.ret rv (sk (sk (sd (sd (sd (sd (sd (sd I8)))))))) ?_)
              refine ⟨O, d2, pp, Ls, rfl, rfl, ?_, q2, q3⟩
              rw [fB h17 hf h31 h69 h74]; exact q1
          · refine c6 12 rfl (gT rfl cw) ?_
            refine c6 13 rfl (G9 cw) ?_
            refine R2 sn (by kernel_rfl) ?_
            refine C4 rfl ?_
            refine w8 ?_
            refine c8 ?_
            refine c7 ?_
            refine C3 ?_
            refine l3 ?_
            refine a9 (finQ.ret rv (Sub.trans (sk (sk (sd (sd I8)))) (Sub.trans (sk (Sub.trans (sk sr) (e5 pm2))) (e5 pm3))) ?_)
            exact ⟨none, 0, [], [], rfl, rfl, (iL h17 hf h31 (fun h => h74 h.2)).symm, Nat.zero_le _, fun p hp => nomatch hp⟩
        · refine c6 7 rfl (m8 cw) ?_
          refine uH 8 rfl rfl ?_
          refine uH 9 rfl rfl ?_
          refine uH 10 rfl rfl ?_
          refine uH 11 rfl rfl ?_
          refine c6 12 rfl (X7 rfl cw) ?_
          refine c6 13 rfl (G9 cw) ?_
          refine R2 sn (by kernel_rfl) ?_
          refine C4 rfl ?_
          refine w8 ?_
          refine c8 ?_
          refine c7 ?_
          refine C3 ?_
          refine l3 ?_
          refine a9 (finQ.ret rv (Sub.trans (sk (sk (sd (sd I8)))) (Sub.trans (sk (Sub.trans (sk sr) (e5 pm2))) (e5 pm3))) ?_)
          exact ⟨none, 0, [], [], rfl, rfl, (iL h17 hf h31 (fun h => h69 h.1)).symm, Nat.zero_le _, fun p hp => nomatch hp⟩
    · refine IE (k := 13) rfl (by kernel_rfl) (by kernel_rfl) (by kernel_rfl) rfl rfl rfl (dZ J93 rfl (fun w hw => (by have h := kG A c B d o hss hxx n w lw (Rd.ro hR w hw) (Rd.ro hS w hw); rw [decide_eq_false hf] at h; exact h : Calls prog 93 #[.agg (G3 A c B d o).toArray, .int .u64 (n : Int)] w (nX w (.bool false))))) ?_
      refine C2 14 rfl rfl (uN rfl) ?_
      refine c6 15 rfl (X7 rfl cw) ?_
      refine c6 16 rfl (G9 cw) ?_
      refine R2 sn (by kernel_rfl) ?_
      refine Q3 rfl ?_
      refine c8 ?_
      refine c7 ?_
      refine C3 ?_
      refine l3 ?_
      refine a9 (finQ.ret rv (Sub.trans (sk (sk (sd (sd I8)))) (Sub.trans (sk (Sub.trans (sk sr) (e5 pm2))) (e5 pm3))) ?_)
      exact ⟨none, 0, [], [], rfl, rfl, (bK (.inr hf)).symm, Nat.zero_le _, fun p hp => nomatch hp⟩
theorem zv24 : gI prog 49 = some (hv e7) := by kernel_rfl
def LX (A : y8) (n c : Nat) : List Value := [.int .u64 0, .int .i64 3, .int .i64 0, .slice none 0 0, .bool false, .int .u64 0, .int .u64 0, .int .i64 0, .slice none 0 0, .slice none 0 0, .int .u64 0] ++ List.replicate 16 (.int .u8 0) ++ [.slice A n c, .slice none 0 0]
theorem build57 (A : y8) (n c : Nat) (w : World) : (Instr.build 58 #[(0, .int .i64 2), (1, .slice A n c)]).run prog w = .ok (.agg #[.int .i64 2, .slice A n c, .slice none 0 0, .int .u64 0]) w := by kernel_rfl
theorem build63 (A : y8) (n c : Nat) (w : World) : (Instr.build 65 #[(1, .int .i64 3), (6, .slice A n c)]).run prog w = .ok (.agg (LX A n c).toArray) w := by kernel_rfl
theorem zb7 (E : Nat → i6) (hEm : ∀ w, Tabs 3 1 w [] → cR 55 #[] w (.agg (m9 (H3 E)).toArray)) (w0) (hT : Tabs 3 1 w0 []) :
  cP 8 #[] w0 fun v L => v = .bool true ∧ L = [] := by
 refine co 42 [.tmp 0] func8 ?_
 refine gw ?_
 refine z9 en (fun w hw => wC E hEm 2 dc w (hT.at hw)) ?_
 rintro v L' ⟨qb, sm, tb, mb, rfl, rfl⟩
 refine gw ?_
 refine z7 (Q2 (vs := w6 [0, 1]) uT elem40 rfl dc rfl (by intro v hv; obtain ⟨x, _, rfl⟩ := List.mem_map.1 hv; rfl) (fun g13 => ?_))
 refine e6 (A5 (a := iI 2) (b := sL (some ⟨g13, 0, none⟩) 2 2) rfl rfl (build57 _ _ _)) ?_
 refine z7 (pU (n := 2) (cs := m9 [e7, e7]) uT elem49 zv24 rfl rfl dc dc dc kr (fun g15 => ?_))
 refine e6 (A5 (a := iI 3) (b := sL (some ⟨g15, 0, none⟩) 2 2) rfl rfl (build63 _ _ _)) ?_
 refine z9 en (fun w hw => tE E 2 dc qb sm tb mb [] (some ⟨g13, 0, none⟩) 2 none 0 ⟨2, [0, 1], [], 0⟩ dc dc dc dc (LX (some ⟨g15, 0, none⟩) 2 2) 0 (some ⟨g15, 0, none⟩) 2 [e7, e7] none 0 [] rfl rfl rfl rfl rfl dc dc w (Rd.at 2 rfl w hw) (Rd.at 4 rfl w hw) (Rd.at 5 rfl w hw) (by decide : ∀ x ∈ ([0, 1] : List Nat), x < 18446744073709551616) (Rd.own (Rd.at 1 rfl) w hw) (CC w) (Rd.blk (Rd.at 0 rfl) w hw) (CC w) (hT.at hw)) ?_
 rintro v L' ⟨O, d2, pp, Ls, rfl, rfl, q1, q2, q3⟩
 rw [zdf] at q1
 have hpl : pp.length = 1 := by have := congrArg List.length q1; simpa using this
 have hx : (pp.getD 0 G7).1.2.2.length = 66 := by have h1 := congrArg (fun l : List Pr => (l.getD 0 KR).1.length) q1; rw [jH ow] at h1; exact h1.trans (L9 ..)
 refine gw ?_
 refine u7 en (fun w hw => cQ (vJ none 0 [] dc dc w (CC w) (fun p h => nomatch h) (fun p h => nomatch h) (hT.at hw))) (gw ?_)
 intro b4
 refine j9 rfl (j5 (v := .agg #[sL none 0 0, sL none 0 0]) rfl rfl (by exact ce114) (by rfl) (by rfl) ?_)
 refine gw ?_
 refine e6 (Qt.dT (z6 (b := 1) rfl rfl) (hpl)) (gw ?_)
 refine E8 rfl rfl rfl (i5 (i := 0) uT cT rfl rfl ow (x8 N3) (by rw [P4]; omega)) ?_
 refine E8 rfl rfl rfl (z5 uT rfl ce112 rfl (x8 N3) (by rw [P4]; omega)) ?_
 refine E8 rfl rfl rfl (a8 rfl (A9 (v := sL (pp.getD 0 G7).1.1 (pp.getD 0 G7).1.2.2.length (pp.getD 0 G7).1.2.1) (x8 N3) oT (cF ow rfl 0 _ rfl))) (gw ?_)
 refine E8 rfl rfl rfl (Qt.dT (z6 (b := 66) rfl rfl) (hx)) (gw ?_)
 refine aK en (fun w hw => uR qb 2 sm tb w (Rd.at 5 rfl w hw)) ?_
 refine E8 rfl rfl rfl (Qt.dT (z6 (b := 2) rfl rfl) (rfl)) (gw ?_)
 exact tR
end Go.Proofs.YtgdjcmehlhebdaaGreatDoor
