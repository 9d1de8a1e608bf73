/- The program logic, fifteenth part: stores and copies told by what the block holds then; ar -/
import Derived.Test.YtgdjcmehlhebdaaGreatDoorM1
import Derived.Laws.Append
set_option maxHeartbeats 25600000
namespace Go.E
set_option linter.unusedSectionVars false
variable {C : Ctx} {env : Env} {L : List Assn}
variable {dst : Option Tmp} {ty : TypeId} {pos : String} {after : Array Edge} {guard : Option (Nat × Bool)} {x y z : Operand} {v : Value} {T T' e : TypeId} {b o : Nat} {cs cs' : List Value} {K' : Value → List Assn → Prop}
theorem Ld.sl0 {A : OAd} {cs : List Value} {T : TypeId} {vs : List Value} (h : Has C L (SlA A cs)) (hT : rowT C.P T = true) (hs : (C.P.info? T).map (·.size) = some vs.length) (hl : 0 < vs.length) (hv : ∀ (j : Nat) (v : Value), vs[j]? = some v → cs[j]? = some v) :
  Ld C L A T (.agg vs.toArray) := by
 have h1 := Ld.slr (k := 0) h hT hs hl (by simpa using hv)
 have h0 : A.map (fun a => a.add 0) = A := by cases A <;> simp [Addr.add]
 rwa [h0] at h1
theorem Qt.toArr {A : OAd} {N n c : Nat} (ht : C.P.underlying T = some (.array N e)) (hx : env.ev x = .slice A n c) (h : N ≤ n) :
  Qt C L ⟨dst, .sliceToArrayPointer T x, ty, pos, after, guard⟩ env (.pointer A) := fun w _ => by
 have hn : ¬ n < N := by omega
 simp [execOp, hx, Instr.arrayAt, run_underlying ht, hn]
theorem Qt.index_agg {N i : Nat} {ki : IntKind} {cs : Array Value} (ht : C.P.underlying T = some (.array N e)) (hs : (C.P.info? e).map (·.size) = some 1) (hp : C.P.plainKey e = true) (hx : env.ev x = .agg cs) (hy : env.ev y = .int ki (i : Int)) (hi : i < N) (hv : cs[i]? = some v) :
  Qt C L ⟨dst, .index T x y, ty, pos, after, guard⟩ env v := fun w _ => by
 obtain ⟨inf, hin, hsz⟩ := Option.map_eq_some_iff.1 hs
 have h1 := run_part_plain (P := C.P) w hp (xs := cs) (off := i * inf.size) (v := v) (by rw [hsz, Nat.mul_one]; exact hv)
 simp [execOp, hx, hy, Instr.index, asIntOf, run_underlying ht, sizeOf, typeInfo, hin, hi, h1]
theorem Qt.index_str {i : Nat} {ki : IntKind} {s : ByteArray} {c : UInt8} (ht : C.P.underlying T = some .string) (hx : env.ev x = .string s) (hy : env.ev y = .int ki (i : Int)) (hv : s[i]? = some c) :
  Qt C L ⟨dst, .index T x y, ty, pos, after, guard⟩ env (.int .u8 (c.toNat : Int)) := fun w _ => by
 simp [execOp, hx, hy, Instr.index, asIntOf, run_underlying ht, hv]
theorem Qt.minN {k : IntKind} {m n : Nat} {tys : Array TypeId} (hx : env.ev x = .int k (m : Int)) (hy : env.ev y = .int k (n : Int)) : Qt C L ⟨dst, .call { callee := .builtin .min, args := #[x, y], argTypes := tys }, ty, pos, after, guard⟩ env (.int k ((min m n : Nat) : Int)) := by
 have h := Qt.min2 (C := C) (L := L) (dst := dst) (ty := ty) (pos := pos) (after := after) (guard := guard) (tys := tys) hx hy
 have e : (if (n : Int) < (m : Int) then (n : Int) else (m : Int)) = ((min m n : Nat) : Int) := by
  split <;> omega
 rwa [e] at h
theorem OpV.slice0 {sz : Nat} (ht : C.P.underlying T = some (.slice e)) (he : ∃ bytes, zcn C.P e sz bytes)
  (h : ∀ b, K' (.slice (some ⟨b, 0, none⟩) 0 0) (OwnA e sz (some ⟨b, 0, none⟩) 0 0 [] :: L)) : OpV C ⟨dst, .buildSlice T 0 #[], ty, pos, after, guard⟩ env L K' := by
 obtain ⟨bytes, i, z, h1, h2, h3, h4, h5, h6⟩ := he
 have hb := OpV.buildSliceR (C := C) (env := env) (L := L) (dst := dst) (ty := ty) (pos := pos) (after := after) (guard := guard) (parts := #[]) (len := 0) (sz := sz) (cs := []) (e := e) (K := fun v L' => ∃ b, v = .slice (some ⟨b, 0, none⟩) 0 0 ∧ L' = Blk b e [] :: L) ht (by rw [h1]; exact congrArg some h3) ow ⟨z, by simp [zeJ, h1, h2], by simp [Instr.fill]⟩ (fun b => ⟨b, rfl, rfl⟩)
 intro w hw
 refine (hb w hw).mono ?_
 rintro v w' ⟨L', hs, b, rfl, rfl⟩
 exact ⟨_, hs.shutOwn (c := 0) (n := 0) (by simp) ow (by simp [maxLen]), by simpa using h b⟩
theorem OpV.sliceOwn {parts : Array (Nat × Operand)} {len sz : Nat} (ht : C.P.underlying T = some (.slice e)) (hsz : (C.P.info? e).map (·.size) = some sz) (hle : len * sz ≤ 16777216)
  (hz : ∃ z, zeJ C.P e = some z ∧ Instr.fill (fun i => some (i * sz, sz)) ((Array.range (len * sz)).map fun j => (if len * sz = 0 then #[] else z.cells)[j % (if len * sz = 0 then #[] else z.cells).size]!) (parts.map fun (i, x) => (i, env.ev x)).toList = some cs.toArray)
  (hpos : 0 < sz) (hl : cs.length = len * sz) (h : ∀ b, K' (.slice (some ⟨b, 0, none⟩) len len) (OwnA e sz (some ⟨b, 0, none⟩) len len cs :: L)) : OpV C ⟨dst, .buildSlice T len parts, ty, pos, after, guard⟩ env L K' := by
 have hb := OpV.buildSliceR (C := C) (env := env) (L := L) (dst := dst) (ty := ty) (pos := pos) (after := after) (guard := guard) (parts := parts) (len := len) (sz := sz) (cs := cs) (e := e) (K := fun v L' => ∃ b, v = .slice (some ⟨b, 0, none⟩) len len ∧ L' = Blk b e cs :: L) ht hsz hle hz (fun b => ⟨b, rfl, rfl⟩)
 have hm : len ≤ maxLen := by
  have : len * 1 ≤ len * sz := Nat.mul_le_mul_left _ hpos
  simp only [maxLen]; omega
 intro w hw
 refine (hb w hw).mono ?_
 rintro v w' ⟨L', hs, b, rfl, rfl⟩
 have := hs.shutOwn (c := len) (n := len) hl (Nat.le_refl _) hm
 rw [← hl, List.take_length] at this
 exact ⟨_, this, h b⟩
theorem OpV.copyG {L1 L2 : List Assn} {sz N c m d : Nat} {B : OAd} {news : List Value} {tS : TypeId} (ht : C.P.underlying T = some (.slice e)) (hsz : (C.P.info? e).map (·.size) = some sz)
  (hx : env.ev x = .slice (some ⟨b, o, none⟩) N c) (hy : env.ev y = .slice B m d) (hs : Has C (L1 ++ Blk b T' cs :: L2) (SlA B news)) (hl : news.length = min m N * sz) (h1 : ∀ u ∈ news, u.oneCell' = true)
  (hb : o + news.length ≤ cs.length) (hc : cs.take o ++ news ++ cs.drop (o + news.length) = cs') (h : K' (.int .i64 ((min m N : Nat) : Int)) (L1 ++ Blk b T' cs' :: L2)) :
  OpV C ⟨dst, .call { callee := .builtin .copy, args := #[x, y], argTypes := #[T, tS] }, ty, pos, after, guard⟩ env (L1 ++ Blk b T' cs :: L2) K' := fun w hw => by
 have hblk : (Blk b T' cs).ok w := hw.ok (List.mem_append.2 (.inr (List.mem_cons_self ..)))
 have hsl := hs w hw
 obtain ⟨i, hi, hisz⟩ := Option.map_eq_some_iff.1 hsz
 have hfirst : (Builtin.firstCells sz (min m N) (.slice B m d)).run C.P w = .ok news.toArray w := by
  cases B with
  | none =>
   have : news = [] := by
    cases news with
    | nil => rfl
    | cons u l => obtain ⟨_, h0, _⟩ := hsl 0 u rfl; cases h0
   subst this
   exact run_firstCells_none w sz _ _ _
  | some a =>
   refine run_firstCells_some w sz (min m N) a m d news hl (fun j u hj => ?_)
   obtain ⟨a', h0, h2⟩ := hsl j u hj
   injection h0 with h0
   subst h0; exact h2
 have hst := run_storeCells_at C.P b o T' news 0 cs.toArray w hblk (by simpa using hb) h1
 simp only [Nat.add_zero] at hst
 have hmin : Nat.min m N = min m N := rfl
 have hrun : (execOp env.ev ⟨dst, .call { callee := .builtin .copy, args := #[x, y], argTypes := #[T, tS] }, ty, pos, after, guard⟩).run C.P w = .ok (.value (.int .i64 ((min m N : Nat) : Int))) (w.setRow b cs'.toArray) := by
  subst hc
  simp [execOp, resolve, invoke, builtin, hx, hy, Builtin.copy_, run_underlying ht, Builtin.lenOf, sizeOf, typeInfo, hi, hisz, hmin, hfirst, hst, goInt]
 rw [hrun]
 exact ⟨_, hw.setRow, h⟩
theorem OpV.storeE0 {R : List Assn} (hx : env.ev x = .pointer (some ⟨b, o, none⟩)) (hy : env.ev y = v) (hs : (C.P.info? T).map (·.size) = some 1) (hv : vl v = [v]) (h1 : v.oneCell' = true) (hl : o < cs.length) (hc : cs.set o v = cs')
  (h : K' undef (Blk b T' cs' :: R)) : OpV C ⟨dst, .store T x y, ty, pos, after, guard⟩ env (Blk b T' cs :: R) K' :=
 OpV.storeG (L1 := []) hx hy (by rw [hv]; exact hs) (by rw [hv]; simp [h1]) (by rw [hv]; exact hl) (by rw [hv]; exact (zdF hl).trans hc) h
theorem OpV.storeR0 {R : List Assn} (hx : env.ev x = .pointer (some ⟨b, o, none⟩)) (hy : env.ev y = v) (hs : (C.P.info? T).map (·.size) = some (vl v).length) (h1 : (vl v).all (·.oneCell') = true) (hb : o + (vl v).length ≤ cs.length) (hc : cs.take o ++ vl v ++ cs.drop (o + (vl v).length) = cs')
  (h : K' undef (Blk b T' cs' :: R)) : OpV C ⟨dst, .store T x y, ty, pos, after, guard⟩ env (Blk b T' cs :: R) K' :=
 OpV.storeG (L1 := []) hx hy hs h1 hb hc h
theorem OpV.copy0 {R : List Assn} {sz N c m d : Nat} {B : OAd} {news : List Value} {tS : TypeId} (ht : C.P.underlying T = some (.slice e)) (hsz : (C.P.info? e).map (·.size) = some sz)
  (hx : env.ev x = .slice (some ⟨b, o, none⟩) N c) (hy : env.ev y = .slice B m d) (hs : Has C (Blk b T' cs :: R) (SlA B news)) (hl : news.length = min m N * sz) (h1 : ∀ u ∈ news, u.oneCell' = true)
  (hb : o + news.length ≤ cs.length) (hc : cs.take o ++ news ++ cs.drop (o + news.length) = cs') (h : K' (.int .i64 ((min m N : Nat) : Int)) (Blk b T' cs' :: R)) :
  OpV C ⟨dst, .call { callee := .builtin .copy, args := #[x, y], argTypes := #[T, tS] }, ty, pos, after, guard⟩ env (Blk b T' cs :: R) K' := OpV.copyG (L1 := []) ht hsz hx hy hs hl h1 hb hc h
theorem OpV.storeE1 {B0 : Assn} {R : List Assn} (hx : env.ev x = .pointer (some ⟨b, o, none⟩)) (hy : env.ev y = v) (hs : (C.P.info? T).map (·.size) = some 1) (hv : vl v = [v]) (h1 : v.oneCell' = true) (hl : o < cs.length) (hc : cs.set o v = cs')
  (h : K' undef (B0 :: Blk b T' cs' :: R)) : OpV C ⟨dst, .store T x y, ty, pos, after, guard⟩ env (B0 :: Blk b T' cs :: R) K' :=
 OpV.storeG (L1 := [B0]) hx hy (by rw [hv]; exact hs) (by rw [hv]; simp [h1]) (by rw [hv]; exact hl) (by rw [hv]; exact (zdF hl).trans hc) h
theorem OpV.storeR1 {B0 : Assn} {R : List Assn} (hx : env.ev x = .pointer (some ⟨b, o, none⟩)) (hy : env.ev y = v) (hs : (C.P.info? T).map (·.size) = some (vl v).length) (h1 : (vl v).all (·.oneCell') = true) (hb : o + (vl v).length ≤ cs.length) (hc : cs.take o ++ vl v ++ cs.drop (o + (vl v).length) = cs')
  (h : K' undef (B0 :: Blk b T' cs' :: R)) : OpV C ⟨dst, .store T x y, ty, pos, after, guard⟩ env (B0 :: Blk b T' cs :: R) K' :=
 OpV.storeG (L1 := [B0]) hx hy hs h1 hb hc h
theorem OpV.copy1 {B0 : Assn} {R : List Assn} {sz N c m d : Nat} {B : OAd} {news : List Value} {tS : TypeId} (ht : C.P.underlying T = some (.slice e)) (hsz : (C.P.info? e).map (·.size) = some sz)
  (hx : env.ev x = .slice (some ⟨b, o, none⟩) N c) (hy : env.ev y = .slice B m d) (hs : Has C (B0 :: Blk b T' cs :: R) (SlA B news)) (hl : news.length = min m N * sz) (h1 : ∀ u ∈ news, u.oneCell' = true)
  (hb : o + news.length ≤ cs.length) (hc : cs.take o ++ news ++ cs.drop (o + news.length) = cs') (h : K' (.int .i64 ((min m N : Nat) : Int)) (B0 :: Blk b T' cs' :: R)) :
  OpV C ⟨dst, .call { callee := .builtin .copy, args := #[x, y], argTypes := #[T, tS] }, ty, pos, after, guard⟩ env (B0 :: Blk b T' cs :: R) K' := OpV.copyG (L1 := [B0]) ht hsz hx hy hs hl h1 hb hc h
theorem OpV.storeR2 {B0 B1 : Assn} {R : List Assn} (hx : env.ev x = .pointer (some ⟨b, o, none⟩)) (hy : env.ev y = v) (hs : (C.P.info? T).map (·.size) = some (vl v).length) (h1 : (vl v).all (·.oneCell') = true) (hb : o + (vl v).length ≤ cs.length) (hc : cs.take o ++ vl v ++ cs.drop (o + (vl v).length) = cs')
  (h : K' undef (B0 :: B1 :: Blk b T' cs' :: R)) : OpV C ⟨dst, .store T x y, ty, pos, after, guard⟩ env (B0 :: B1 :: Blk b T' cs :: R) K' :=
 OpV.storeG (L1 := [B0, B1]) hx hy hs h1 hb hc h
theorem Qt.as {o : Oper} {v v' : Value} (h : Qt C L o env v) (e : v = v') : Qt C L o env v' := e ▸ h
theorem Qt.convNeg {src dstT : TypeId} {k : IntKind} {n : Nat} (h1 : C.P.underlying src = some (.int k)) (h2 : C.P.underlying dstT = some (.int .u64)) (hx : env.ev x = .int k (-(n : Int))) (hn : 1 ≤ n) (hm : n ≤ 9223372036854775808) :
  Qt C L ⟨dst, .convert src dstT x, ty, pos, after, guard⟩ env (.int .u64 ((18446744073709551616 - n : Nat) : Int)) := by
 have h := Qt.convertw (C := C) (L := L) (dst := dst) (ty := ty) (pos := pos) (after := after) (guard := guard) h1 h2 hx
 have e : IntKind.u64.wrap (-(n : Int)) = ((18446744073709551616 - n : Nat) : Int) := by
  simp only [IntKind.wrap, IntKind.bits, IntKind.signed, Bool.false_and, if_false, Bool.false_eq_true]
  omega
 rwa [e] at h
theorem zih {P : Program} {w : World} {A : OAd} {n c : Nat} (ht : P.underlying T = some (.slice e)) (d : Nat) : (Op.equalIn (d + 1) T (.slice A n c) (.slice none 0 0)).run P w = .ok A.isNone w := by
 cases A <;> simp [Op.equalIn, run_underlying ht]
theorem Qt.eqsl {A : OAd} {n c : Nat} {ty2 : TypeId} (ht : C.P.underlying T = some (.slice e)) (hx : env.ev x = .slice A n c) : Qt C L ⟨dst, .binOp .eql T x (.const (.slice none 0 0)) ty2, ty, pos, after, guard⟩ env (.bool A.isNone) := fun w _ => by
 have h : (Op.equal T (.slice A n c) (.slice none 0 0)).run C.P w = .ok A.isNone w := zih ht 9999
 have h0 : env.ev (.const (.slice none 0 0)) = .slice none 0 0 := rfl
 simp [execOp, hx, h0, eqGuard, binOp, h]
theorem SlA.none_nil {cs : List Value} {w : World} (h : (SlA none cs).ok w) : cs = [] := by
 cases cs with
 | nil => rfl
 | cons u l => obtain ⟨_, h0, _⟩ := h 0 u rfl; cases h0
theorem TC.fact {Q : EQ} {c : Code} {A : Assn} {p : Prop} (hA : Has C L A) (h : ∀ w, A.ok w → p) (k : p → TC C c Q env L) : TC C c Q env L := fun a w ha hw => k (h w (hA w hw)) a w ha hw
theorem TL.fact {Q : EQ} {ops : Array Oper} {l : List Oper} {A : Assn} {p : Prop} (hA : Has C L A) (h : ∀ w, A.ok w → p) (k : p → TL C ops Q l env L) : TL C ops Q l env L := fun a w ha hw => k (h w (hA w hw)) a w ha hw
theorem zrJ (l : List Value) : ∀ (p s r : List Value) (o : Nat), o = p.length → s.length = l.length →
  (l.toArray.zipIdx.foldl (fun (cs : Array Value) (c, j) => cs.setIfInBounds (o + j) c) (p ++ s ++ r).toArray) = (p ++ l ++ r).toArray := by
 have key : ∀ (l p s r : List Value) (o k : Nat), o + k = p.length → s.length = l.length →
   ((l.zipIdx k).foldl (fun (cs : Array Value) (c, j) => cs.setIfInBounds (o + j) c) (p ++ s ++ r).toArray) = (p ++ l ++ r).toArray := by
  intro l
  induction l with
  | nil => intro p s r o k _ h; obtain rfl : s = [] := List.eq_nil_of_length_eq_zero h; rfl
  | cons c l ih =>
   intro p s r o k ho h
   cases s with
   | nil => simp at h
   | cons d s =>
    rw [List.zipIdx_cons, List.foldl_cons]
    have e : (p ++ d :: s ++ r).toArray.setIfInBounds (o + k) c = (p ++ [c] ++ s ++ r).toArray := by
     rw [ho]; simp
    dsimp only
    rw [e, ih (p ++ [c]) s r o (k + 1) (by simp; omega) (by simpa using h)]
    simp
 intro p s r o ho h
 rw [← Array.foldl_toList, Array.toList_zipIdx]
 exact key l p s r o 0 ow h
theorem znP (sz : Nat) : ∀ (vs : List Value) (k : Nat) (p s : List Value), (∀ v ∈ vs, (vl v).length = sz) → p.length = k * sz → s.length = vs.length * sz →
  Instr.fill (fun i => some (i * sz, sz)) (p ++ s).toArray ((vs.zipIdx k).map fun q => (q.2, q.1)) = some (p ++ vs.flatMap vl).toArray
 | [], k, p, s, _, _, hs => by
  obtain rfl : s = [] := List.eq_nil_of_length_eq_zero (by simpa using hs)
  simp [Instr.fill]
 | v :: vs, k, p, s, hv, hp, hs => by
  have h1 : (vl v).length = sz := hv v (List.mem_cons_self ..)
  have hle : sz ≤ s.length := by rw [hs, List.length_cons, Nat.add_mul, Nat.one_mul]; omega
  have hc : v.cells = (vl v).toArray := zcu v
  have e1 : p ++ s = p ++ s.take sz ++ s.drop sz := by rw [List.append_assoc, List.take_append_drop]
  have h2 := zrJ (vl v) p (s.take sz) (s.drop sz) (k * sz) hp.symm (by rw [List.length_take, h1]; omega)
  rw [List.zipIdx_cons, List.map_cons]
  simp only [Instr.fill, hc]
  rw [if_neg (by simp [h1]; omega)]
  rw [e1, h2]
  have ih := znP sz vs (k + 1) (p ++ vl v) (s.drop sz) (fun u hu => hv u (List.mem_cons_of_mem _ hu)) (by rw [List.length_append, hp, h1, Nat.add_mul, Nat.one_mul]) (by rw [List.length_drop, hs, List.length_cons, Nat.add_mul, Nat.one_mul]; omega)
  rw [ih]
  simp
theorem OpV.sliceL {parts : List (Nat × Operand)} {vs : List Value} {sz bytes len : Nat} (ht : C.P.underlying T = some (.slice e)) (he : zcn C.P e sz bytes) (hn : vs.length = len) (hle : len * sz ≤ 16777216) (hp : parts.map (fun q => (q.1, env.ev q.2)) = (vs.zipIdx 0).map fun q => (q.2, q.1)) (hv : ∀ v ∈ vs, (vl v).length = sz)
  (h : ∀ b, K' (.slice (some ⟨b, 0, none⟩) len len) (Blk b e (vs.flatMap vl) :: L)) : OpV C ⟨dst, .buildSlice T len parts.toArray, ty, pos, after, guard⟩ env L K' := by
 subst hn
 obtain ⟨i, z, h1, h2, h3, h4, h5, h6⟩ := he
 refine OpV.buildSliceR (sz := sz) (cs := vs.flatMap vl) ht (by rw [h1]; exact congrArg some h3) hle ⟨z, by simp [zeJ, h1, h2], ?_⟩ h
 have hl : (parts.toArray.map fun (i, x) => (i, env.ev x)).toList = (vs.zipIdx 0).map fun q => (q.2, q.1) := by rw [← hp]; simp
 rw [hl]
 obtain ⟨zl, hz⟩ : ∃ zl : List Value, zl.length = vs.length * sz ∧ (((Array.range (vs.length * sz)).map fun j => (if vs.length * sz = 0 then #[] else z.cells)[j % (if vs.length * sz = 0 then #[] else z.cells).size]!)) = zl.toArray := ⟨_, by simp, (Array.toArray_toList).symm⟩
 rw [hz.2]
 have := znP sz vs 0 [] zl hv (by simp) hz.1
 simpa using this
def Places (pl : Nat → Option (Nat × Nat)) : List Value → Nat → Nat → Prop
 | [], _, _ => True
 | v :: vs, k, o => pl k = some (o, (vl v).length) ∧ Places pl vs (k + 1) (o + (vl v).length)
theorem zkt (pl : Nat → Option (Nat × Nat)) : ∀ (vs : List Value) (k : Nat) (p s r : List Value), Places pl vs k p.length → s.length = (vs.flatMap vl).length →
  Instr.fill pl (p ++ s ++ r).toArray ((vs.zipIdx k).map fun q => (q.2, q.1)) = some (p ++ vs.flatMap vl ++ r).toArray
 | [], k, p, s, r, _, hs => by
  obtain rfl : s = [] := List.eq_nil_of_length_eq_zero (by simpa using hs)
  simp [Instr.fill]
 | v :: vs, k, p, s, r, h, hs => by
  obtain ⟨h1, h2⟩ := h
  rw [List.flatMap_cons, List.length_append] at hs
  have hc : v.cells = (vl v).toArray := zcu v
  have e1 : p ++ s ++ r = p ++ s.take (vl v).length ++ (s.drop (vl v).length ++ r) := by
   rw [List.append_assoc p, List.append_assoc p, ← List.append_assoc (s.take _), List.take_append_drop]
  have h3 := zrJ (vl v) p (s.take (vl v).length) (s.drop (vl v).length ++ r) p.length rfl (by rw [List.length_take]; omega)
  rw [List.zipIdx_cons, List.map_cons]
  simp only [Instr.fill, h1, hc]
  rw [if_neg (by simp; omega)]
  rw [e1, h3]
  have ih := zkt pl vs (k + 1) (p ++ vl v) (s.drop (vl v).length) r (by rw [List.length_append]; exact h2) (by rw [List.length_drop]; omega)
  rw [← List.append_assoc, ih, List.flatMap_cons]
  simp
theorem Places.arr (sz : Nat) : ∀ (vs : List Value) (k : Nat), (∀ v ∈ vs, (vl v).length = sz) → Places (fun i => some (i * sz, sz)) vs k (k * sz)
 | [], _, _ => trivial
 | v :: vs, k, h => ⟨by rw [h v (List.mem_cons_self ..)], by
  rw [h v (List.mem_cons_self ..), ← Nat.succ_mul]
  exact Places.arr sz vs (k + 1) fun u hu => h u (List.mem_cons_of_mem _ hu)⟩
theorem zhu {P : Program} {T : TypeId} {zs : List Value} (h : zaW P T = some zs) : ∃ z, (∀ w, (zeroValue T).run P w = .ok z w) ∧ z.cells = zs.toArray := by
 unfold zaW at h
 obtain ⟨z, hz, rfl⟩ := Option.map_eq_some_iff.1 h
 exact ⟨z, fun w => zgd hz, zcu z⟩
theorem Qt.buildArr {N sz : Nat} {parts : List (Nat × Operand)} {vs zs : List Value} (ht : C.P.underlying T = some (.array N e)) (hsz : (C.P.info? e).map (·.size) = some sz) (hz : zaW C.P T = some zs) (hp : parts.map (fun q => (q.1, env.ev q.2)) = (vs.zipIdx 0).map fun q => (q.2, q.1))
  (hv : ∀ v ∈ vs, (vl v).length = sz) (hl : (vs.flatMap vl).length ≤ zs.length) : Qt C L ⟨dst, .build T parts.toArray, ty, pos, after, guard⟩ env (.agg (vs.flatMap vl ++ zs.drop (vs.flatMap vl).length).toArray) := fun w _ => by
 obtain ⟨inf, hin, hs⟩ := Option.map_eq_some_iff.1 hsz
 obtain ⟨z, hz1, hz2⟩ := zhu hz
 have hl1 : (parts.toArray.map fun (i, x) => (i, env.ev x)).toList = (vs.zipIdx 0).map fun q => (q.2, q.1) := by rw [← hp]; simp
 have h0 := Places.arr sz vs 0 hv
 rw [Nat.zero_mul] at h0
 have hf := zkt (fun i => some (i * sz, sz)) vs 0 [] (zs.take (vs.flatMap vl).length) (zs.drop (vs.flatMap vl).length) h0 (by rw [List.length_take]; omega)
 simp only [List.nil_append, List.take_append_drop] at hf
 simp only [execOp, Instr.build, Sem.run_bind, hz1, run_underlying ht, Result.andThen_ok, sizeOf, typeInfo, run_program, hin, hs, Sem.run_pure, hz2, hl1, hf]
theorem Qt.buildS {fs : Array Field} {pls : Array (Nat × Nat)} {parts : List (Nat × Operand)} {vs zs : List Value} (ht : C.P.underlying T = some (.struct fs)) (hpl : ∀ w, (fs.mapM fun f => do pure (f.offset, ← sizeOf f.type) : Sem (Array (Nat × Nat))).run C.P w = .ok pls w) (hz : zaW C.P T = some zs)
  (hp : parts.map (fun q => (q.1, env.ev q.2)) = (vs.zipIdx 0).map fun q => (q.2, q.1)) (hv : Places (fun i => pls[i]?) vs 0 0) (hl : zs.length = (vs.flatMap vl).length) : Qt C L ⟨dst, .build T parts.toArray, ty, pos, after, guard⟩ env (.agg (vs.flatMap vl).toArray) := fun w _ => by
 obtain ⟨z, hz1, hz2⟩ := zhu hz
 have hl1 : (parts.toArray.map fun (i, x) => (i, env.ev x)).toList = (vs.zipIdx 0).map fun q => (q.2, q.1) := by rw [← hp]; simp
 have hf := zkt (fun i => pls[i]?) vs 0 [] zs [] hv hl
 simp only [List.nil_append, List.append_nil] at hf
 simp only [execOp, Instr.build, Sem.run_bind, hz1, run_underlying ht, Result.andThen_ok, hpl, Sem.run_pure, hz2, hl1, hf]
theorem OpV.sliceLO {parts : List (Nat × Operand)} {vs : List Value} {sz bytes len : Nat} (ht : C.P.underlying T = some (.slice e)) (he : zcn C.P e sz bytes) (hn : vs.length = len) (hle : len * sz ≤ 16777216) (hp : parts.map (fun q => (q.1, env.ev q.2)) = (vs.zipIdx 0).map fun q => (q.2, q.1)) (hv : ∀ v ∈ vs, (vl v).length = sz)
  (h : ∀ b, K' (.slice (some ⟨b, 0, none⟩) len len) (OwnA e sz (some ⟨b, 0, none⟩) len len (vs.flatMap vl) :: L)) : OpV C ⟨dst, .buildSlice T len parts.toArray, ty, pos, after, guard⟩ env L K' := by
 have hpos : 0 < sz := by obtain ⟨_, _, _, _, _, _, _, h⟩ := he; exact h
 have hb := OpV.sliceL (C := C) (env := env) (L := L) (dst := dst) (ty := ty) (pos := pos) (after := after) (guard := guard) (K' := fun v L' => ∃ b, v = .slice (some ⟨b, 0, none⟩) len len ∧ L' = Blk b e (vs.flatMap vl) :: L) ht he hn hle hp hv (fun b => ⟨b, rfl, rfl⟩)
 have hfl : (vs.flatMap vl).length = len * sz := by
  rw [← hn, List.length_flatMap]
  clear hp hb h hle hn
  induction vs with
  | nil => simp
  | cons v vs ih =>
   rw [List.map_cons, List.sum_cons, hv v (List.mem_cons_self ..), ih (fun u hu => hv u (List.mem_cons_of_mem _ hu)), List.length_cons, Nat.succ_mul, Nat.add_comm]
 have hm : len ≤ maxLen := by
  have : len * 1 ≤ len * sz := Nat.mul_le_mul_left _ hpos
  simp only [maxLen]; omega
 intro w hw
 refine (hb w hw).mono ?_
 rintro v w' ⟨L', hs, b, rfl, rfl⟩
 have := hs.shutOwn (c := len) (n := len) hfl (Nat.le_refl _) hm
 rw [← hfl, List.take_length] at this
 exact ⟨_, this, h b⟩
theorem ztK (n : Nat) : n &&& 31 = n % 32 := Nat.and_two_pow_sub_one_eq_mod n 5
theorem zsa {k : Nat} (h1 : 1 ≤ k) (h2 : k ≤ 31) : (18446744073709551616 - k) &&& 31 = 32 - k := by
 rw [ztK]; omega
end Go.E
