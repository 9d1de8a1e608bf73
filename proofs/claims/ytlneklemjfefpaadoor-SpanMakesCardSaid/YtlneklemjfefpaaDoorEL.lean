/-
  The program logic, twelfth part: the copy of a map by the library.
-/
import Derived.Test.YtlneklemjfefpaaDoorEK
import Derived.Laws.Externs
namespace Go.E
set_option linter.unusedVariables false
set_option linter.unusedSectionVars false
variable {C : Ctx} {env : Env} {L : List Assn}
variable {κ α : Type} [DecidableEq κ] {enc : κ → Value} {encv : α → Value} {ms : List (κ × α)}
variable {dst : Option Tmp} {ty ty2 : TypeId} {pos : String} {after : Array Edge} {guard : Option (Nat × Bool)} {x : Operand} {T : TypeId} {b : Nat} {K : Value → List Assn → Prop}
/-- Function f is the library's own copy of a map. -/
def ClonesAt (P : Program) (f : FuncId) : Prop := ∀ (args : Array Value) (w : World), (callFunc f args).run P w = ((Extern.MapsClone.clone args).run P w).andThen fun v w' => .ok (.value v) w'
theorem run_clone {P : Program} {w : World} {r : Nat} {es : Array MapEntry} {clock : Nat} (t : TypeId) (hb : w.heap[r]? = some (.map es clock)) :
    (Extern.MapsClone.clone #[.iface t (.map (some r))]).run P w = .ok (.iface t (.map (some w.heap.size))) (w.alloc (.map es clock)) := by
  have e : Extern.MapsClone.clone #[.iface t (.map (some r))] = (getObj r >>= fun o => match o with
      | .map entries clock => (newObj (.map entries clock) >>= fun n => pure (.iface t (.map (some n))))
      | _ => stuck "maps.clone: a map expected") := rfl
  rw [e]
  simp only [Sem.run_bind, run_getObj_map hb, Result.andThen_ok]
  simp [newObj, Sem.run]
theorem OpV.clone {f : FuncId} {args : Array Operand} {tys : Array TypeId} {g : Operand} (hc : ClonesAt C.P f) (hg : env.ev g = .func (.func f) #[] #[]) (ha : args.toList.map env.ev = [.iface T (.map (some b))]) (hm : Has C L (MapA b enc encv ms))
    (h : ∀ m, K (.iface T (.map (some m))) (MapA m enc encv ms :: L)) : OpV C ⟨dst, .call { callee := .value g, args := args, argTypes := tys }, ty, pos, after, guard⟩ env L K := fun w hw => by
  obtain ⟨es, clock, hb, he, hp, hlt, hn⟩ := hm w hw
  have hargs : args.map env.ev = #[.iface T (.map (some b))] := by
    apply Array.ext'
    rw [Array.toList_map, ha]
  have hrun : (execOp env.ev ⟨dst, .call { callee := .value g, args := args, argTypes := tys }, ty, pos, after, guard⟩).run C.P w = .ok (.value (.iface T (.map (some w.heap.size)))) (w.alloc (.map es clock)) := by
    have h2 : (callFunc f #[.iface T (.map (some b))]).run C.P w = .ok (.value (.iface T (.map (some w.heap.size)))) (w.alloc (.map es clock)) := by
      rw [hc, run_clone T hb]; rfl
    simp [execOp, resolve, invoke, hg, hargs, Deferred.ofValue, h2]
  rw [hrun]
  refine ⟨_, ?_, h w.heap.size⟩
  have h1 : St C.w0 C.M ([] ++ IsObj w.heap.size (.map es clock) :: L) (w.alloc (.map es clock)) := hw.alloc _
  exact h1.closeMap he hp hlt hn
theorem equalIn_mnil {P : Program} {w : World} {K1 E1 : TypeId} {p : Option Nat} (ht : P.underlying T = some (.map K1 E1)) (d : Nat) : (Op.equalIn (d + 1) T (.map p) (.map none)).run P w = .ok p.isNone w := by
  cases p <;> simp [Op.equalIn, run_underlying ht]
theorem Qt.eqm_some {K1 E1 : TypeId} (ht : C.P.underlying T = some (.map K1 E1)) (hx : env.ev x = .map (some b)) : Qt C L ⟨dst, .binOp .eql T x (.const (.map none)) ty2, ty, pos, after, guard⟩ env (.bool false) := fun w _ => by
  have h : (Op.equal T (.map (some b)) (.map none)).run C.P w = .ok false w := by
    exact equalIn_mnil ht 9999
  have hev : env.ev (.const (.map none)) = .map none := rfl
  simp [execOp, hx, hev, eqGuard, binOp, h]
theorem Qt.assert_map {S K1 E1 : TypeId} {v : Value} (ht : C.P.underlying T = some (.map K1 E1)) (hx : env.ev x = .iface T v) : Qt C L ⟨dst, .typeAssert x S T false, ty, pos, after, guard⟩ env v := fun w _ => by
  simp [execOp, hx, Instr.typeAssert, run_underlying ht]
end Go.E
