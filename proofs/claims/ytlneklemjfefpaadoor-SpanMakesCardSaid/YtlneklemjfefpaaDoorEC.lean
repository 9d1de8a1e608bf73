/-
  The program logic, third part: what single operations yield.
-/
import Derived.Test.YtlneklemjfefpaaDoorEB
import Derived.Laws.Sem
import Derived.Laws.World
import Derived.IntWalk
import Derived.Laws.Cells
import Derived.Laws.Rows
import Derived.Laws.BitsAllLaws
import Derived.Laws.Entries
namespace Go.E
set_option linter.unusedVariables false
variable {C : Ctx} {Q : EQ} {env : Env} {L : List Assn} {ops : Array Oper} {rest : List Oper}

/-- It yields this value and leaves the world as it is. -/
def Qt (C : Ctx) (L : List Assn) (o : Oper) (env : Env) (v : Value) : Prop :=
  ∀ w, St C.w0 C.M L w → (execOp env.ev o).run C.P w = .ok (.value v) w
theorem Qt.opv {o : Oper} {v : Value} {K : Value → List Assn → Prop} (h : Qt C L o env v) (hk : K v L) : OpV C o env L K := fun w hw => by
  rw [h w hw]
  exact ⟨L, hw, hk⟩
theorem Qt.cal {o : Oper} {v : Value} (h : Qt C L o env v) : Cal C o env v L := fun w hw => by
  rw [h w hw]
  exact ⟨rfl, hw⟩
theorem Qt.wk {o : Oper} {v : Value} {L' : List Assn} (h : Qt C L o env v) (s : Sub L L') : Qt C L' o env v := fun w hw => h w (hw.sub s)
theorem Qt.det {o : Oper} {v : Value} (h : Qt C L o env v) : Det C o env v L := fun X w hw => by
  rw [h w hw.left]
  exact ⟨rfl, hw⟩
theorem TL.q {o : Oper} {v : Value} (hg : o.guard = none) (hd : dlt o.dst C.n = true) (hnd : isDefer o = false) (h : Qt C L o env v)
    (k : TL C ops Q rest (env.putO o.dst v) L) : TL C ops Q (o :: rest) env L := TL.step hg hd hnd (h.opv k)
theorem TL.qg {o : Oper} {v : Value} (hg : wantedE ops env o = true) (hd : dlt o.dst C.n = true) (hnd : isDefer o = false) (h : Qt C L o env v)
    (k : TL C ops Q rest (env.putO o.dst v) L) : TL C ops Q (o :: rest) env L := TL.stepg hg hd hnd (h.opv k)
theorem AWk.q {E : List Nat × List Nat} {F X : List Assn} {dn : List Nat} {k : Nat} {o : Oper} {v : Value} (ho : ops[k]? = some o) (hk : (firstK ops dn k && within ops o) = true) (hsel : noSelectB ops = true) (hd : dlt o.dst C.n = true) (hnd : isDefer o = false) (hE : has E.1 k = false ∧ has E.2 k = false)
    (hw : wantedE ops env o = true) (hy : Qt C F o env v) (h : AWk C ops Q E F (k :: dn) (env.putO o.dst v) X) : AWk C ops Q E F dn env X :=
  AWk.det ho hk (noSelectB_spec hsel) hd hnd (.inl ⟨hw, hE, hy.det⟩) h
theorem AWk.pass {E : List Nat × List Nat} {F X : List Assn} {dn : List Nat} {k : Nat} {o : Oper} (ho : ops[k]? = some o) (hk : (firstK ops dn k && within ops o) = true) (hsel : noSelectB ops = true) (hd : dlt o.dst C.n = true) (hnd : isDefer o = false)
    (hw : wantedE ops env o = false) (h : AWk C ops Q E F (k :: dn) (env.putO o.dst undef) X) : AWk C ops Q E F dn env X :=
  AWk.det ho hk (noSelectB_spec hsel) hd hnd (.inr ⟨hw, rfl⟩) h

section ops
variable {dst : Option Tmp} {ty : TypeId} {pos : String} {after : Array Edge} {guard : Option (Nat × Bool)} {x y z : Operand} {v : Value}
theorem Qt.move (hx : env.ev x = v) : Qt C L ⟨dst, .move x, ty, pos, after, guard⟩ env v := fun w _ => by simp [execOp, hx]
theorem Qt.assign (hx : env.ev x = v) : Qt C L ⟨dst, .assign x, ty, pos, after, guard⟩ env v := fun w _ => by simp [execOp, hx]
theorem Qt.pick_t (hc : env.ev x = .bool true) (hy : env.ev y = v) : Qt C L ⟨dst, .pick x y z, ty, pos, after, guard⟩ env v := fun w _ => by simp [execOp, hc, hy, asBool]
theorem Qt.pick_f (hc : env.ev x = .bool false) (hy : env.ev z = v) : Qt C L ⟨dst, .pick x y z, ty, pos, after, guard⟩ env v := fun w _ => by simp [execOp, hc, hy, asBool]
theorem Qt.extract {vs : Array Value} {i : Nat} (hx : env.ev x = .tuple vs) (hv : vs[i]? = some v) : Qt C L ⟨dst, .extract x i, ty, pos, after, guard⟩ env v := fun w _ => by
  simp [execOp, hx, Instr.extract, hv]
theorem Qt.not {b : Bool} (hx : env.ev x = .bool b) {t : TypeId} : Qt C L ⟨dst, .unOp .not t x, ty, pos, after, guard⟩ env (.bool (!b)) := fun w _ => by simp [execOp, hx, Op.unary]
theorem Qt.makeInterface {t : TypeId} {d : TypeDesc} (ht : C.P.underlying t = some d) (hd : ∀ ms, d ≠ .interface ms) (hx : env.ev x = v) : Qt C L ⟨dst, .makeInterface t x, ty, pos, after, guard⟩ env (.iface t v) := fun w _ => by
  cases d <;> simp [execOp, hx, Instr.makeInterface, run_underlying ht]
  exact absurd rfl (hd _)
theorem Qt.nilCheck {a : Addr} (hx : env.ev x = .pointer (some a)) : Qt C L ⟨dst, .nilCheck x, ty, pos, after, guard⟩ env (.pointer (some a)) := fun w _ => by simp [execOp, hx]
theorem Qt.len_slice {t e : TypeId} {A : Option Addr} {n c : Nat} (ht : C.P.underlying t = some (.slice e)) (hx : env.ev x = .slice A n c) :
    Qt C L ⟨dst, .call { callee := .builtin .len, args := #[x], argTypes := #[t] }, ty, pos, after, guard⟩ env (.int .i64 (n : Int)) := fun w _ => by
  simp [execOp, resolve, invoke, builtin, hx, Builtin.len_, run_underlying ht, goInt]

/-! ints -/
def kmax : IntKind → Nat
  | .i8 => 127 | .i16 => 32767 | .i32 => 2147483647 | .i64 => 9223372036854775807
  | .u8 => 255 | .u16 => 65535 | .u32 => 4294967295 | .u64 => 18446744073709551615
theorem wrap_nat {k : IntKind} {n : Nat} (h : n ≤ kmax k) : k.wrap (n : Int) = (n : Int) := by
  cases k <;> simp only [kmax] at h
  · exact IntWalk.i8_in _ (by omega)
  · exact IntWalk.i16_in _ (by omega)
  · exact IntWalk.i32_in _ (by omega)
  · exact IntWalk.i64_in _ (by omega)
  · exact IntWalk.u8_in _ (by omega)
  · exact IntWalk.u16_in _ (by omega)
  · exact IntWalk.u32_in _ (by omega)
  · exact IntWalk.u64_in _ (by omega)
def umod : IntKind → Nat
  | .u8 => 256 | .u16 => 65536 | .u32 => 4294967296 | .u64 => 18446744073709551616 | _ => 0
theorem wrap_umod {k : IntKind} (n : Nat) (h : k.signed = false) : k.wrap (n : Int) = ((n % umod k : Nat) : Int) := by
  cases k <;> simp [IntKind.signed] at h <;> simp [IntKind.wrap, IntKind.signed, IntKind.bits, umod]
theorem umod_kmax {k : IntKind} (h : k.signed = false) : umod k = kmax k + 1 := by cases k <;> simp [IntKind.signed] at h <;> rfl

variable {t ty2 : TypeId} {k : IntKind} {a b : Nat} {m n : Int}
theorem run_arith {o : Oper} {op : BinOp} (ho : o.op = .binOp op t x y ty2) (hx : env.ev x = .int k m) (hy : env.ev y = .int k n) {P : Program} {w : World} {r : Value}
    (hr : (binOp op t (.int k m) (.int k n)).run P w = .ok r w) : (execOp env.ev o).run P w = .ok (.value r) w := by
  have he : (eqGuard op t x y (.int k m) (.int k n)).run P w = .ok () w := by
    unfold eqGuard; split <;> simp
  simp [execOp, ho, hx, hy, he, hr]
theorem Qt.add (hx : env.ev x = .int k (a : Int)) (hy : env.ev y = .int k (b : Int)) (h : a + b ≤ kmax k) :
    Qt C L ⟨dst, .binOp .add t x y ty2, ty, pos, after, guard⟩ env (.int k ((a + b : Nat) : Int)) := fun w _ =>
  run_arith rfl hx hy (by simp only [binOp, Op.intArith, ← Int.natCast_add, wrap_nat h]; simp)
theorem Qt.addm (hx : env.ev x = .int k (a : Int)) (hy : env.ev y = .int k (b : Int)) (hk : k.signed = false) :
    Qt C L ⟨dst, .binOp .add t x y ty2, ty, pos, after, guard⟩ env (.int k (((a + b) % umod k : Nat) : Int)) := fun w _ =>
  run_arith rfl hx hy (by simp only [binOp, Op.intArith, ← Int.natCast_add, wrap_umod _ hk]; simp)
theorem Qt.addi (hx : env.ev x = .int k m) (hy : env.ev y = .int k n) (h : k.wrap (m + n) = m + n) :
    Qt C L ⟨dst, .binOp .add t x y ty2, ty, pos, after, guard⟩ env (.int k (m + n)) := fun w _ =>
  run_arith rfl hx hy (by simp only [binOp, Op.intArith, h]; simp)
theorem Qt.addw (hx : env.ev x = .int k m) (hy : env.ev y = .int k n) :
    Qt C L ⟨dst, .binOp .add t x y ty2, ty, pos, after, guard⟩ env (.int k (k.wrap (m + n))) := fun w _ =>
  run_arith rfl hx hy (by simp [binOp, Op.intArith])
theorem Qt.sub (hx : env.ev x = .int k (a : Int)) (hy : env.ev y = .int k (b : Int)) (h : b ≤ a) (ha : a ≤ kmax k) :
    Qt C L ⟨dst, .binOp .sub t x y ty2, ty, pos, after, guard⟩ env (.int k ((a - b : Nat) : Int)) := fun w _ =>
  run_arith rfl hx hy (by simp only [binOp, Op.intArith, ← Int.ofNat_sub h, wrap_nat (show a - b ≤ kmax k by omega)]; simp)
theorem Qt.subi (hx : env.ev x = .int k m) (hy : env.ev y = .int k n) (h : k.wrap (m - n) = m - n) :
    Qt C L ⟨dst, .binOp .sub t x y ty2, ty, pos, after, guard⟩ env (.int k (m - n)) := fun w _ =>
  run_arith rfl hx hy (by simp only [binOp, Op.intArith, h]; simp)
theorem Qt.subw (hx : env.ev x = .int k m) (hy : env.ev y = .int k n) :
    Qt C L ⟨dst, .binOp .sub t x y ty2, ty, pos, after, guard⟩ env (.int k (k.wrap (m - n))) := fun w _ =>
  run_arith rfl hx hy (by simp [binOp, Op.intArith])
theorem Qt.mul (hx : env.ev x = .int k (a : Int)) (hy : env.ev y = .int k (b : Int)) (h : a * b ≤ kmax k) :
    Qt C L ⟨dst, .binOp .mul t x y ty2, ty, pos, after, guard⟩ env (.int k ((a * b : Nat) : Int)) := fun w _ =>
  run_arith rfl hx hy (by simp only [binOp, Op.intArith, ← Int.natCast_mul, wrap_nat h]; simp)
theorem Qt.mulm (hx : env.ev x = .int k (a : Int)) (hy : env.ev y = .int k (b : Int)) (hk : k.signed = false) :
    Qt C L ⟨dst, .binOp .mul t x y ty2, ty, pos, after, guard⟩ env (.int k (((a * b) % umod k : Nat) : Int)) := fun w _ =>
  run_arith rfl hx hy (by simp only [binOp, Op.intArith, ← Int.natCast_mul, wrap_umod _ hk]; simp)
theorem Qt.quo (hx : env.ev x = .int k (a : Int)) (hy : env.ev y = .int k (b : Int)) (h : 0 < b) (ha : a ≤ kmax k) :
    Qt C L ⟨dst, .binOp .quo t x y ty2, ty, pos, after, guard⟩ env (.int k ((a / b : Nat) : Int)) := fun w _ =>
  run_arith rfl hx hy (by
    have h0 : ((b : Nat) : Int) ≠ 0 := by omega
    have h1 : (a : Int).tdiv (b : Int) = ((a / b : Nat) : Int) := rfl
    simp only [binOp, Op.intDiv, h1, wrap_nat (show a / b ≤ kmax k from Nat.le_trans (Nat.div_le_self _ _) ha), if_neg h0]; simp)
theorem Qt.rem (hx : env.ev x = .int k (a : Int)) (hy : env.ev y = .int k (b : Int)) (h : 0 < b) :
    Qt C L ⟨dst, .binOp .rem t x y ty2, ty, pos, after, guard⟩ env (.int k ((a % b : Nat) : Int)) := fun w _ =>
  run_arith rfl hx hy (by
    have h0 : ((b : Nat) : Int) ≠ 0 := by omega
    have h1 : (a : Int).tmod (b : Int) = ((a % b : Nat) : Int) := rfl
    simp only [binOp, Op.intDiv, h1, if_neg h0]; simp)

theorem Qt.lt (hx : env.ev x = .int k (a : Int)) (hy : env.ev y = .int k (b : Int)) : Qt C L ⟨dst, .binOp .lss t x y ty2, ty, pos, after, guard⟩ env (.bool (decide (a < b))) := fun w _ =>
  run_arith rfl hx hy (by simp [binOp, Op.intCmp])
theorem Qt.le (hx : env.ev x = .int k (a : Int)) (hy : env.ev y = .int k (b : Int)) : Qt C L ⟨dst, .binOp .leq t x y ty2, ty, pos, after, guard⟩ env (.bool (decide (a ≤ b))) := fun w _ =>
  run_arith rfl hx hy (by simp [binOp, Op.intCmp])
theorem Qt.gt (hx : env.ev x = .int k (a : Int)) (hy : env.ev y = .int k (b : Int)) : Qt C L ⟨dst, .binOp .gtr t x y ty2, ty, pos, after, guard⟩ env (.bool (decide (b < a))) := fun w _ =>
  run_arith rfl hx hy (by simp [binOp, Op.intCmp])
theorem Qt.ge (hx : env.ev x = .int k (a : Int)) (hy : env.ev y = .int k (b : Int)) : Qt C L ⟨dst, .binOp .geq t x y ty2, ty, pos, after, guard⟩ env (.bool (decide (b ≤ a))) := fun w _ =>
  run_arith rfl hx hy (by simp [binOp, Op.intCmp])
theorem Qt.eq (hx : env.ev x = .int k (a : Int)) (hy : env.ev y = .int k (b : Int)) : Qt C L ⟨dst, .binOp .eql t x y ty2, ty, pos, after, guard⟩ env (.bool (decide (a = b))) := fun w _ =>
  run_arith rfl hx hy (by simp [binOp, Op.intCmp]; rw [Bool.eq_iff_iff]; simp; omega)
theorem Qt.ne (hx : env.ev x = .int k (a : Int)) (hy : env.ev y = .int k (b : Int)) : Qt C L ⟨dst, .binOp .neq t x y ty2, ty, pos, after, guard⟩ env (.bool (decide (a ≠ b))) := fun w _ =>
  run_arith rfl hx hy (by simp [binOp, Op.intCmp]; rw [Bool.eq_iff_iff]; simp; omega)
theorem Qt.lti (hx : env.ev x = .int k m) (hy : env.ev y = .int k n) : Qt C L ⟨dst, .binOp .lss t x y ty2, ty, pos, after, guard⟩ env (.bool (decide (m < n))) := fun w _ =>
  run_arith rfl hx hy (by simp [binOp, Op.intCmp])
theorem Qt.lei (hx : env.ev x = .int k m) (hy : env.ev y = .int k n) : Qt C L ⟨dst, .binOp .leq t x y ty2, ty, pos, after, guard⟩ env (.bool (decide (m ≤ n))) := fun w _ =>
  run_arith rfl hx hy (by simp [binOp, Op.intCmp])
theorem Qt.gti (hx : env.ev x = .int k m) (hy : env.ev y = .int k n) : Qt C L ⟨dst, .binOp .gtr t x y ty2, ty, pos, after, guard⟩ env (.bool (decide (n < m))) := fun w _ =>
  run_arith rfl hx hy (by simp [binOp, Op.intCmp])
theorem Qt.gei (hx : env.ev x = .int k m) (hy : env.ev y = .int k n) : Qt C L ⟨dst, .binOp .geq t x y ty2, ty, pos, after, guard⟩ env (.bool (decide (n ≤ m))) := fun w _ =>
  run_arith rfl hx hy (by simp [binOp, Op.intCmp])
theorem Qt.eqi (hx : env.ev x = .int k m) (hy : env.ev y = .int k n) : Qt C L ⟨dst, .binOp .eql t x y ty2, ty, pos, after, guard⟩ env (.bool (decide (m = n))) := fun w _ =>
  run_arith rfl hx hy (by simp [binOp, Op.intCmp]; rw [Bool.eq_iff_iff]; simp)
theorem Qt.nei (hx : env.ev x = .int k m) (hy : env.ev y = .int k n) : Qt C L ⟨dst, .binOp .neq t x y ty2, ty, pos, after, guard⟩ env (.bool (decide (m ≠ n))) := fun w _ =>
  run_arith rfl hx hy (by simp [binOp, Op.intCmp]; rw [Bool.eq_iff_iff]; simp)

theorem Qt.convert {src dstT : TypeId} {kd : IntKind} (h1 : C.P.underlying src = some (.int k)) (h2 : C.P.underlying dstT = some (.int kd)) (hx : env.ev x = .int k (a : Int)) (h : a ≤ kmax kd) :
    Qt C L ⟨dst, .convert src dstT x, ty, pos, after, guard⟩ env (.int kd (a : Int)) := fun w _ => by
  simp [execOp, Go.convert, run_underlying h1, run_underlying h2, hx, Conv.intToInt, wrap_nat h]
theorem Qt.convertw {src dstT : TypeId} {kd : IntKind} (h1 : C.P.underlying src = some (.int k)) (h2 : C.P.underlying dstT = some (.int kd)) (hx : env.ev x = .int k m) :
    Qt C L ⟨dst, .convert src dstT x, ty, pos, after, guard⟩ env (.int kd (kd.wrap m)) := fun w _ => by
  simp [execOp, Go.convert, run_underlying h1, run_underlying h2, hx, Conv.intToInt]

/-! errors: an interface value against nil -/
theorem equalIn_nil {P : Program} {w : World} {ms : Array (String × TypeId)} (ht : P.underlying t = some (.interface ms)) (d : Nat) : (Op.equalIn (d + 1) t .nilIface .nilIface).run P w = .ok true w := by
  simp [Op.equalIn, run_underlying ht]
theorem equalIn_iface {P : Program} {w : World} {ms : Array (String × TypeId)} {e : TypeId} (ht : P.underlying t = some (.interface ms)) (d : Nat) : (Op.equalIn (d + 1) t (.iface e v) .nilIface).run P w = .ok false w := by
  simp [Op.equalIn, run_underlying ht]
theorem run_eqlNil {P : Program} {w : World} {ms : Array (String × TypeId)} (ht : P.underlying t = some (.interface ms)) : (Op.equal t .nilIface .nilIface).run P w = .ok true w := equalIn_nil ht 9999
theorem run_eqlIface {P : Program} {w : World} {ms : Array (String × TypeId)} {d : TypeId} (ht : P.underlying t = some (.interface ms)) : (Op.equal t (.iface d v) .nilIface).run P w = .ok false w := equalIn_iface ht 9999
theorem ev_nil : env.ev (.const .nilIface) = .nilIface := rfl
theorem Qt.nenil_nil {ms : Array (String × TypeId)} (ht : C.P.underlying t = some (.interface ms)) (hx : env.ev x = .nilIface) : Qt C L ⟨dst, .binOp .neq t x (.const .nilIface) ty2, ty, pos, after, guard⟩ env (.bool false) := fun w _ => by
  simp [execOp, hx, ev_nil, eqGuard, binOp, run_eqlNil ht]
theorem Qt.nenil_iface {ms : Array (String × TypeId)} {d : TypeId} (ht : C.P.underlying t = some (.interface ms)) (hx : env.ev x = .iface d v) : Qt C L ⟨dst, .binOp .neq t x (.const .nilIface) ty2, ty, pos, after, guard⟩ env (.bool true) := fun w _ => by
  simp [execOp, hx, ev_nil, eqGuard, binOp, run_eqlIface ht]
theorem Qt.eqnil_nil {ms : Array (String × TypeId)} (ht : C.P.underlying t = some (.interface ms)) (hx : env.ev x = .nilIface) : Qt C L ⟨dst, .binOp .eql t x (.const .nilIface) ty2, ty, pos, after, guard⟩ env (.bool true) := fun w _ => by
  simp [execOp, hx, ev_nil, eqGuard, binOp, run_eqlNil ht]
theorem Qt.eqnil_iface {ms : Array (String × TypeId)} {d : TypeId} (ht : C.P.underlying t = some (.interface ms)) (hx : env.ev x = .iface d v) : Qt C L ⟨dst, .binOp .eql t x (.const .nilIface) ty2, ty, pos, after, guard⟩ env (.bool false) := fun w _ => by
  simp [execOp, hx, ev_nil, eqGuard, binOp, run_eqlIface ht]

/-! addresses -/
theorem Qt.index_slice {e : TypeId} {A : Addr} {N c i sz : Nat} {ki : IntKind} (ht : C.P.underlying t = some (.slice e)) (hsz : (C.P.info? e).map (·.size) = some sz) (hx : env.ev x = .slice (some A) N c) (hy : env.ev y = .int ki (i : Int)) (hi : i < N) :
    Qt C L ⟨dst, .indexAddr t x y, ty, pos, after, guard⟩ env (.pointer (some (A.add (i * sz)))) := fun w _ => by
  obtain ⟨inf, hin, hs⟩ := Option.map_eq_some_iff.1 hsz
  simp [execOp, hx, hy, Instr.indexAt, asIntOf, run_underlying ht, sizeOf, typeInfo, hin, hs, hi]
theorem Qt.index_arr {e : TypeId} {A : Addr} {N i sz : Nat} {ki : IntKind} (ht : C.P.underlying t = some (.array N e)) (hsz : (C.P.info? e).map (·.size) = some sz) (hx : env.ev x = .pointer (some A)) (hy : env.ev y = .int ki (i : Int)) (hi : i < N) :
    Qt C L ⟨dst, .indexAddr t x y, ty, pos, after, guard⟩ env (.pointer (some (A.add (i * sz)))) := fun w _ => by
  obtain ⟨inf, hin, hs⟩ := Option.map_eq_some_iff.1 hsz
  simp [execOp, hx, hy, Instr.indexAt, Instr.sureAddr, asIntOf, run_underlying ht, sizeOf, typeInfo, hin, hs, hi]
end ops
end Go.E
