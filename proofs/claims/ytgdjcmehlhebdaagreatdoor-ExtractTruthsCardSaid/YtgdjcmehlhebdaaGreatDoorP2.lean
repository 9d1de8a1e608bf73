/- Short forms of calls, stores and ends. -/
import Derived.Test.YtgdjcmehlhebdaaGreatDoorSH
import Derived.Test.YtgdjcmehlhebdaaGreatDoorProg
import Derived.KernelRfl
import Derived.Lib.SmallJoins
import Derived.Deep.Fields
import Derived.Deep.Slices
import Derived.ChangeSame
import Derived.ChangeSlices
import Derived.Below
import Derived.Carry
set_option maxHeartbeats 25600000
set_option linter.all false
namespace Go.E
section brief
variable {C : Ctx} {Q : EQ} {env : Env} {L : List Assn} {ops : Array Oper} {rest : List Oper} {d : Nat} {op : Op} {ty : TypeId} {po : String} {af : Array Edge} {v : Value} {gd : Nat × Bool} {E : List Nat × List Nat} {F : List Assn} {dn : List Nat} {f : FuncId} {args : Array Operand} {tys : Array TypeId} {φ : Value → List Assn → Prop}
theorem gW {P : Program} {f : FuncId} {fn : Func} {c : Code} {args : Array Value} {w0 : World} {L : List Assn} (n : Nat) (rs : List ResultVar) (hf : P.funcs[f]? = some fn) (hL : Sat w0 L) (h : TC ⟨P, n, w0, A8 L, none⟩ c (finQ ⟨P, n, w0, A8 L, none⟩ rs φ) (BM args) L)
  (hb : fn.body = some c := by rfl) (hn : fn.ntmps = n := by rfl) (hr : fn.results.toList = rs := by rfl) (ha : args.size ≤ n := by exact Nat.le_of_ble_eq_true rfl) : Calls P f args w0 (D0 w0 (A8 L) φ) := N4 hf hb hn hr ha hL h
theorem co {P : Program} {f : FuncId} {fn : Func} {c : Code} {args : Array Value} {w0 : World} (n : Nat) (rs : List ResultVar) (hf : P.funcs[f]? = some fn) (h : TC ⟨P, n, w0, [], none⟩ c (finQ ⟨P, n, w0, [], none⟩ rs φ) (BM args) [])
  (hb : fn.body = some c := by rfl) (hn : fn.ntmps = n := by rfl) (hr : fn.results.toList = rs := by rfl) (ha : args.size ≤ n := by exact Nat.le_of_ble_eq_true rfl) : Calls P f args w0 (D0 w0 [] φ) := N4 (L := []) hf hb hn hr ha (Sat.nil _) h
theorem z9 (he : p8 C.P f) (hc : ∀ w, St C.w0 C.M L w → Calls C.P f (U5 env args #[]) w (D0 w [] φ)) (hk : ∀ v L', φ v L' → TL C ops Q rest (env.put d v) (L' ++ L)) (hd : Nat.blt d C.n = true := by exact rfl) :
  TL C ops Q (⟨some d, .call { callee := .value (.func f), args := args, argTypes := tys }, ty, po, af, none⟩ :: rest) env L := CY hd rfl (l8 (Pre := []) (R := L) he rfl (List.Perm.refl _) hc hk)
theorem u7 (he : p8 C.P f) (hc : ∀ w, St C.w0 C.M L w → Calls C.P f (U5 env args #[]) w (nX w v)) (hk : TL C ops Q rest (env.put d v) L) (hd : Nat.blt d C.n = true := by exact rfl) :
  TL C ops Q (⟨some d, .call { callee := .value (.func f), args := args, argTypes := tys }, ty, po, af, none⟩ :: rest) env L := CY hd rfl (R1 he rfl hc hk)
theorem aK (he : p8 C.P f) (hc : ∀ w, St C.w0 C.M L w → Calls C.P f (U5 env args #[]) w (nX w v)) (hk : TL C ops Q rest (env.put d v) L) (hw : A3 ops env ⟨some d, .call { callee := .value (.func f), args := args, argTypes := tys }, ty, po, af, some gd⟩ = true := by exact rfl) (hd : Nat.blt d C.n = true := by exact rfl) :
  TL C ops Q (⟨some d, .call { callee := .value (.func f), args := args, argTypes := tys }, ty, po, af, some gd⟩ :: rest) env L := zjM hw hd rfl (R1 he rfl hc hk)
theorem I7 (k : Nat) (ho : ops[k]? = some ⟨some d, .call { callee := .value (.func f), args := args, argTypes := tys }, ty, po, af, none⟩) (he : p8 C.P f) (hc : ∀ w, St C.w0 C.M L w → Calls C.P f (U5 env args #[]) w (nX w v)) (h : AWl C ops Q E F (k :: dn) (env.put d v) L)
  (hk : (R0 ops dn k && F4 ops ⟨some d, .call { callee := .value (.func f), args := args, argTypes := tys }, ty, po, af, none⟩) = true := by kernel_rfl) (hsel : H6 ops = true := by kernel_rfl) (hcl : eO ops E dn k = true := by kernel_rfl) (hd : Nat.blt d C.n = true := by exact rfl)
  (hE : has E.1 k = false ∧ has E.2 k = false := by exact ⟨rfl, rfl⟩) : AWl C ops Q E F dn env L := KN ho hk hsel hcl hd rfl (dZ he rfl hc) h hE
theorem Q7 (k : Nat) (ho : ops[k]? = some ⟨some d, .call { callee := .value (.func f), args := args, argTypes := tys }, ty, po, af, some gd⟩) (hw : A3 ops env ⟨some d, .call { callee := .value (.func f), args := args, argTypes := tys }, ty, po, af, some gd⟩ = true) (he : p8 C.P f) (hc : ∀ w, St C.w0 C.M L w → Calls C.P f (U5 env args #[]) w (nX w v)) (h : AWl C ops Q E F (k :: dn) (env.put d v) L)
  (hk : (R0 ops dn k && F4 ops ⟨some d, .call { callee := .value (.func f), args := args, argTypes := tys }, ty, po, af, some gd⟩) = true := by kernel_rfl) (hsel : H6 ops = true := by kernel_rfl) (hcl : eO ops E dn k = true := by kernel_rfl) (hd : Nat.blt d C.n = true := by exact rfl)
  (hE : has E.1 k = false ∧ has E.2 k = false := by exact ⟨rfl, rfl⟩) : AWl C ops Q E F dn env L := IE ho hk hsel hcl hd rfl hw (dZ he rfl hc) h hE
theorem zgy (L' L : List Assn) : Sub L (L' ++ L) := ⟨L', List.perm_append_comm⟩
theorem P5 (k : Nat) (ho : ops[k]? = some ⟨some d, .call { callee := .value (.func f), args := args, argTypes := tys }, ty, po, af, none⟩) (he : p8 C.P f) (hc : ∀ w, St C.w0 C.M L w → Calls C.P f (U5 env args #[]) w (D0 w [] φ)) (h : ∀ v L', φ v L' → AWl C ops Q E F (k :: dn) (env.put d v) (L' ++ L)) (s : Sub F L := by exact sb)
  (hk : bH ops dn k = true := by kernel_rfl) (hr : (S7 dn ⟨some d, .call { callee := .value (.func f), args := args, argTypes := tys }, ty, po, af, none⟩ && F4 ops ⟨some d, .call { callee := .value (.func f), args := args, argTypes := tys }, ty, po, af, none⟩) = true := by kernel_rfl) (hd : Nat.blt d C.n = true := by exact rfl)
  (hE1 : has E.1 k = false := by rfl) (hE : has E.2 k = true := by rfl) : AWl C ops Q E F dn env L := tH s ho hk hr hd rfl (l8 (Pre := []) (R := L) he rfl (List.Perm.refl _) hc fun v L' hv => ⟨zgy L' L, h v L' hv⟩) hE1 hE
theorem V5 (k : Nat) (ho : ops[k]? = some ⟨some d, op, ty, po, af, none⟩) (h : OpV C ⟨some d, op, ty, po, af, none⟩ env L fun v L' => Sub F L' ∧ AWl C ops Q E F (k :: dn) (env.put d v) L') (s : Sub F L := by exact sb) (hk : bH ops dn k = true := by kernel_rfl) (hr : (S7 dn ⟨some d, op, ty, po, af, none⟩ && F4 ops ⟨some d, op, ty, po, af, none⟩) = true := by kernel_rfl) (hd : Nat.blt d C.n = true := by exact rfl) (hnd : q8 ⟨some d, op, ty, po, af, none⟩ = false := by exact rfl)
  (hE : has E.1 k = true := by rfl) : AWl C ops Q E F dn env L := FZ s ho hk hr hd hnd h hE
theorem F7 (k : Nat) (ho : ops[k]? = some ⟨none, op, ty, po, af, none⟩) (h : OpV C ⟨none, op, ty, po, af, none⟩ env L fun v L' => Sub F L' ∧ AWl C ops Q E F (k :: dn) env L') (s : Sub F L := by exact sb) (hk : bH ops dn k = true := by kernel_rfl) (hr : (S7 dn ⟨none, op, ty, po, af, none⟩ && F4 ops ⟨none, op, ty, po, af, none⟩) = true := by kernel_rfl) (hnd : q8 ⟨none, op, ty, po, af, none⟩ = false := by exact rfl)
  (hE : has E.1 k = true := by rfl) : AWl C ops Q E F dn env L := fH s ho hk hr hnd h hE
theorem aO (k : Nat) (ho : ops[k]? = some ⟨some d, op, ty, po, af, none⟩) (h : OpV C ⟨some d, op, ty, po, af, none⟩ env L fun v L' => Sub L L' ∧ AWl C ops Q E F (k :: dn) (env.put d v) L') (s : Sub F L := by exact sb) (hk : bH ops dn k = true := by kernel_rfl) (hr : (S7 dn ⟨some d, op, ty, po, af, none⟩ && F4 ops ⟨some d, op, ty, po, af, none⟩) = true := by kernel_rfl) (hd : Nat.blt d C.n = true := by exact rfl) (hnd : q8 ⟨some d, op, ty, po, af, none⟩ = false := by exact rfl)
  (hE1 : has E.1 k = false := by rfl) (hE : has E.2 k = true := by rfl) : AWl C ops Q E F dn env L := tH s ho hk hr hd hnd h hE1 hE
theorem p7 (h : Q .normal env L) (s : Sub F L := by exact sb) (hk : JU ops dn = true := by kernel_rfl) : AWl C ops Q E F dn env L := R2 s hk h
theorem ag {e : Env} {vars : List (Nat × Value)} (h : ∀ x ∈ vars, e x.1 = x.2 := by repeat (first | refine List.forall_mem_cons.2 ⟨rfl, ?_⟩ | (intro x hx; cases hx; done))) : ∀ x ∈ vars, e x.1 = x.2 := h
theorem sbd {A B : List Assn} (h : Sub A B := by (try dsimp only); exact sb) : Sub A B := h
theorem sk {X : Assn} {A B : List Assn} (h : Sub A B) : Sub (X :: A) (X :: B) := Sub.keep X h
theorem sd {X : Assn} {A B : List Assn} (h : Sub A B) : Sub A (X :: B) := Sub.drop X h
theorem sn {B : List Assn} : Sub [] B := Sub.nil B
theorem I8 : Sub [] [] := Sub.nil []
theorem sr {A : List Assn} : Sub A A := Sub.refl A
theorem pc {a : Assn} {l l2 : List Assn} (h : l.Perm l2) : (a :: l).Perm (a :: l2) := List.Perm.cons a h
theorem pr {l : List Assn} : l.Perm l := List.Perm.refl l
theorem pm1 {x a : Assn} {l₂ : List Assn} : ([x] ++ a :: l₂).Perm (a :: ([x] ++ l₂)) := List.perm_middle
theorem pm2 {x y a : Assn} {l₂ : List Assn} : ([x, y] ++ a :: l₂).Perm (a :: ([x, y] ++ l₂)) := List.perm_middle
theorem pm3 {x y z a : Assn} {l₂ : List Assn} : ([x, y, z] ++ a :: l₂).Perm (a :: ([x, y, z] ++ l₂)) := List.perm_middle
theorem pm4 {x y z u a : Assn} {l₂ : List Assn} : ([x, y, z, u] ++ a :: l₂).Perm (a :: ([x, y, z, u] ++ l₂)) := List.perm_middle
theorem pm5 {x y z u v a : Assn} {l₂ : List Assn} : ([x, y, z, u, v] ++ a :: l₂).Perm (a :: ([x, y, z, u, v] ++ l₂)) := List.perm_middle
theorem pm6 {x y z u v w a : Assn} {l₂ : List Assn} : ([x, y, z, u, v, w] ++ a :: l₂).Perm (a :: ([x, y, z, u, v, w] ++ l₂)) := List.perm_middle
end brief
end Go.E
namespace Go.Proofs.YtgdjcmehlhebdaaGreatDoor
open _root_.Go.Proofs.Tryz
open Go.E
set_option maxRecDepth 4000
theorem uT {t : TypeId} {d : TypeDesc} (h : prog.underlying t = some d := by first | (with_reducible first | exact underlying3 | exact underlying4 | exact underlying5 | exact underlying9 | exact underlying22 | exact underlying23 | exact underlying24 | exact underlying26 | exact underlying29 | exact underlying31 | exact underlying33 | exact underlying40 | exact underlying41 | exact underlying43 | exact underlying46 | exact underlying49 | exact underlying51 | exact underlying55 | exact underlying56 | exact underlying58 | exact underlying59 | exact underlying61 | exact underlying63 | exact underlying65 | exact underlying67 | exact underlying69 | exact underlying73 | exact underlying74 | exact underlying76 | exact underlying81 | exact underlying83 | exact underlying89 | exact underlying91 | exact underlying93 | exact underlying94 | exact underlying96 | exact underlying98 | exact underlying100 | exact underlying105 | exact underlying111 | exact underlying112 | exact underlying114 | exact underlying115 | exact underlying136 | exact underlying138 | exact underlying140 | exact underlying155 | exact underlying158 | exact underlying160 | exact underlying170 | exact underlying173 | exact underlying182 | exact underlying188 | exact underlying194 | exact underlying198 | exact underlying223 | exact underlying224 | exact underlying226 | exact underlying229 | exact underlying241 | exact underlying243 | exact underlying249 | exact underlying261 | exact underlying264 | exact underlying265 | exact underlying289 | exact underlying293 | exact underlying295 | exact underlying297 | exact underlying302 | exact underlying304 | exact underlying331 | exact underlying353) | (simp only [List.getElem_toArray, List.getElem_cons_zero]; first | with_reducible exact underlying158 | with_reducible exact underlying241)) : prog.underlying t = some d := h
theorem ce3 : (prog.info? 3).map (·.size) = some 1 := by kernel_rfl
theorem ce4 : (prog.info? 4).map (·.size) = some 1 := by kernel_rfl
theorem ce5 : (prog.info? 5).map (·.size) = some 1 := by kernel_rfl
theorem ce22 : (prog.info? 22).map (·.size) = some 1 := by kernel_rfl
theorem ce23 : (prog.info? 23).map (·.size) = some 1 := by kernel_rfl
theorem ce24 : (prog.info? 24).map (·.size) = some 2 := by kernel_rfl
theorem ce26 : (prog.info? 26).map (·.size) = some 1 := by kernel_rfl
theorem ce29 : (prog.info? 29).map (·.size) = some 1 := by kernel_rfl
theorem ce31 : (prog.info? 31).map (·.size) = some 1 := by kernel_rfl
theorem ce33 : (prog.info? 33).map (·.size) = some 1 := by kernel_rfl
theorem ce40 : (prog.info? 40).map (·.size) = some 1 := by kernel_rfl
theorem ce43 : (prog.info? 43).map (·.size) = some 2 := by kernel_rfl
theorem ce46 : (prog.info? 46).map (·.size) = some 3 := by kernel_rfl
theorem ce49 : (prog.info? 49).map (·.size) = some 32 := by kernel_rfl
theorem ce51 : (prog.info? 51).map (·.size) = some 1 := by kernel_rfl
theorem ce55 : (prog.info? 55).map (·.size) = some 1 := by kernel_rfl
theorem ce56 : (prog.info? 56).map (·.size) = some 1 := by kernel_rfl
theorem ce58 : (prog.info? 58).map (·.size) = some 4 := by kernel_rfl
theorem ce59 : (prog.info? 59).map (·.size) = some 16 := by kernel_rfl
theorem ce61 : (prog.info? 61).map (·.size) = some 22 := by kernel_rfl
theorem ce63 : (prog.info? 63).map (·.size) = some 28 := by kernel_rfl
theorem ce65 : (prog.info? 65).map (·.size) = some 29 := by kernel_rfl
theorem ce67 : (prog.info? 67).map (·.size) = some 61 := by kernel_rfl
theorem ce69 : (prog.info? 69).map (·.size) = some 1 := by kernel_rfl
theorem ce74 : (prog.info? 74).map (·.size) = some 1 := by kernel_rfl
theorem ce76 : (prog.info? 76).map (·.size) = some 2 := by kernel_rfl
theorem ce81 : (prog.info? 81).map (·.size) = some 1 := by kernel_rfl
theorem ce83 : (prog.info? 83).map (·.size) = some 3 := by kernel_rfl
theorem ce89 : (prog.info? 89).map (·.size) = some 32 := by kernel_rfl
theorem ce91 : (prog.info? 91).map (·.size) = some 49 := by kernel_rfl
theorem ce93 : (prog.info? 93).map (·.size) = some 50 := by kernel_rfl
theorem ce94 : (prog.info? 94).map (·.size) = some 1 := by kernel_rfl
theorem ce96 : (prog.info? 96).map (·.size) = some 4 := by kernel_rfl
theorem ce98 : (prog.info? 98).map (·.size) = some 22 := by kernel_rfl
theorem ce100 : (prog.info? 100).map (·.size) = some 29 := by kernel_rfl
theorem ce105 : (prog.info? 105).map (·.size) = some 28 := by kernel_rfl
theorem ce111 : (prog.info? 111).map (·.size) = some 1 := by kernel_rfl
theorem ce112 : (prog.info? 112).map (·.size) = some 1 := by kernel_rfl
theorem ce114 : (prog.info? 114).map (·.size) = some 2 := by kernel_rfl
theorem ce115 : (prog.info? 115).map (·.size) = some 2 := by kernel_rfl
theorem ce136 : (prog.info? 136).map (·.size) = some 49 := by kernel_rfl
theorem ce138 : (prog.info? 138).map (·.size) = some 50 := by kernel_rfl
theorem ce140 : (prog.info? 140).map (·.size) = some 1056 := by kernel_rfl
theorem ce155 : (prog.info? 155).map (·.size) = some 1 := by kernel_rfl
theorem ce158 : (prog.info? 158).map (·.size) = some 1 := by kernel_rfl
theorem ce160 : (prog.info? 160).map (·.size) = some 3 := by kernel_rfl
theorem ce170 : (prog.info? 170).map (·.size) = some 50 := by kernel_rfl
theorem ce173 : (prog.info? 173).map (·.size) = some 33 := by kernel_rfl
theorem ce182 : (prog.info? 182).map (·.size) = some 2 := by kernel_rfl
theorem ce188 : (prog.info? 188).map (·.size) = some 1 := by kernel_rfl
theorem ce194 : (prog.info? 194).map (·.size) = some 3 := by kernel_rfl
theorem ce198 : (prog.info? 198).map (·.size) = some 33 := by kernel_rfl
theorem ce223 : (prog.info? 223).map (·.size) = some 1 := by kernel_rfl
theorem ce224 : (prog.info? 224).map (·.size) = some 8 := by kernel_rfl
theorem ce226 : (prog.info? 226).map (·.size) = some 1 := by kernel_rfl
theorem ce227 : (prog.info? 227).map (·.size) = some 1 := by kernel_rfl
theorem ce229 : (prog.info? 229).map (·.size) = some 1 := by kernel_rfl
theorem ce241 : (prog.info? 241).map (·.size) = some 1 := by kernel_rfl
theorem ce249 : (prog.info? 249).map (·.size) = some 2 := by kernel_rfl
theorem ce264 : (prog.info? 264).map (·.size) = some 2 := by kernel_rfl
theorem ce265 : (prog.info? 265).map (·.size) = some 2 := by kernel_rfl
theorem ce277 : (prog.info? 277).map (·.size) = some 1 := by kernel_rfl
theorem ce289 : (prog.info? 289).map (·.size) = some 64 := by kernel_rfl
theorem ce295 : (prog.info? 295).map (·.size) = some 1 := by kernel_rfl
theorem ce297 : (prog.info? 297).map (·.size) = some 2 := by kernel_rfl
theorem ce302 : (prog.info? 302).map (·.size) = some 64 := by kernel_rfl
theorem ce304 : (prog.info? 304).map (·.size) = some 1 := by kernel_rfl
theorem ce318 : (prog.info? 318).map (·.size) = some 1 := by kernel_rfl
theorem ce353 : (prog.info? 353).map (·.size) = some 1 := by kernel_rfl
theorem cT {t n : Nat} (h : (prog.info? t).map (·.size) = some n := by with_reducible first | exact ce3 | exact ce4 | exact ce5 | exact ce22 | exact ce23 | exact ce24 | exact ce26 | exact ce29 | exact ce31 | exact ce33 | exact ce40 | exact ce43 | exact ce46 | exact ce49 | exact ce51 | exact ce55 | exact ce56 | exact ce58 | exact ce59 | exact ce61 | exact ce63 | exact ce65 | exact ce67 | exact ce69 | exact ce74 | exact ce76 | exact ce81 | exact ce83 | exact ce89 | exact ce91 | exact ce93 | exact ce94 | exact ce96 | exact ce98 | exact ce100 | exact ce105 | exact ce111 | exact ce112 | exact ce114 | exact ce115 | exact ce136 | exact ce138 | exact ce140 | exact ce155 | exact ce158 | exact ce160 | exact ce170 | exact ce173 | exact ce182 | exact ce188 | exact ce194 | exact ce198 | exact ce223 | exact ce224 | exact ce226 | exact ce227 | exact ce229 | exact ce241 | exact ce249 | exact ce264 | exact ce265 | exact ce277 | exact ce289 | exact ce295 | exact ce297 | exact ce302 | exact ce304 | exact ce318 | exact ce353) : (prog.info? t).map (·.size) = some n := h
theorem ze3 : E3 prog 3 = some [.int .i64 0] := by kernel_rfl
theorem ze33 : E3 prog 33 = some [.slice none 0 0] := by kernel_rfl
theorem ze41 : E3 prog 41 = some (List.replicate 6 (.slice none 0 0)) := by kernel_rfl
theorem ze43 : E3 prog 43 = some ([.slice none 0 0] ++ [.slice none 0 0]) := by kernel_rfl
theorem ze46 : E3 prog 46 = some ([.slice none 0 0] ++ ([.slice none 0 0] ++ [.slice none 0 0])) := by kernel_rfl
theorem ze49 : E3 prog 49 = some (List.replicate 32 (.int .u8 0)) := by kernel_rfl
theorem ze51 : E3 prog 51 = some [.nilIface] := by kernel_rfl
theorem ze58 : E3 prog 58 = some ([.int .i64 0] ++ [.slice none 0 0] ++ [.slice none 0 0] ++ [.int .u64 0]) := by kernel_rfl
theorem ze63 : E3 prog 63 = some ([.int .u64 0] ++ [.int .i64 0] ++ [.slice none 0 0] ++ [.int .u64 0] ++ [.int .i64 0] ++ ([.int .u64 0] ++ [.int .u64 0] ++ ([.int .i64 0] ++ [.slice none 0 0] ++ [.slice none 0 0] ++ [.int .u64 0]) ++ (List.replicate 16 (.int .u8 0))) ++ [.int .u64 0]) := by kernel_rfl
theorem ze76 : E3 prog 76 = some ([.int .u64 0] ++ [.slice none 0 0]) := by kernel_rfl
theorem ze83 : E3 prog 83 = some ([.int .i64 0] ++ [.slice none 0 0] ++ [.slice none 0 0]) := by kernel_rfl
theorem ze91 : E3 prog 91 = some ([.int .u64 0] ++ (List.replicate 32 (.int .u8 0)) ++ (List.replicate 16 (.int .u8 0))) := by kernel_rfl
theorem ze93 : E3 prog 93 = some ([.bool false] ++ ([.int .u64 0] ++ (List.replicate 32 (.int .u8 0)) ++ (List.replicate 16 (.int .u8 0)))) := by kernel_rfl
theorem ze96 : E3 prog 96 = some ([.int .i64 0] ++ [.slice none 0 0] ++ [.slice none 0 0] ++ [.int .u64 0]) := by kernel_rfl
theorem ze98 : E3 prog 98 = some ([.int .u64 0] ++ [.int .u64 0] ++ ([.int .i64 0] ++ [.slice none 0 0] ++ [.slice none 0 0] ++ [.int .u64 0]) ++ (List.replicate 16 (.int .u8 0))) := by kernel_rfl
theorem ze100 : E3 prog 100 = some ([.int .u64 0] ++ [.int .i64 0] ++ [.int .i64 0] ++ [.slice none 0 0] ++ [.bool false] ++ ([.int .u64 0] ++ [.int .u64 0] ++ ([.int .i64 0] ++ [.slice none 0 0] ++ [.slice none 0 0] ++ [.int .u64 0]) ++ (List.replicate 16 (.int .u8 0))) ++ [.slice none 0 0] ++ [.slice none 0 0]) := by kernel_rfl
theorem ze105 : E3 prog 105 = some ([.int .u64 0] ++ [.int .i64 0] ++ [.slice none 0 0] ++ [.int .u64 0] ++ [.int .i64 0] ++ ([.int .u64 0] ++ [.int .u64 0] ++ ([.int .i64 0] ++ [.slice none 0 0] ++ [.slice none 0 0] ++ [.int .u64 0]) ++ (List.replicate 16 (.int .u8 0))) ++ [.int .u64 0]) := by kernel_rfl
theorem ze114 : E3 prog 114 = some ([.slice none 0 0] ++ [.slice none 0 0]) := by kernel_rfl
theorem ze136 : E3 prog 136 = some ([.int .u64 0] ++ (List.replicate 32 (.int .u8 0)) ++ (List.replicate 16 (.int .u8 0))) := by kernel_rfl
theorem ze138 : E3 prog 138 = some ([.bool false] ++ ([.int .u64 0] ++ (List.replicate 32 (.int .u8 0)) ++ (List.replicate 16 (.int .u8 0)))) := by kernel_rfl
theorem ze140 : E3 prog 140 = some (List.replicate 1056 (.int .u8 0)) := by kernel_rfl
theorem ze155 : E3 prog 155 = some [.pointer none] := by kernel_rfl
theorem ze170 : E3 prog 170 = some ([.int .u64 0] ++ ([.int .u64 0] ++ (List.replicate 32 (.int .u8 0)) ++ (List.replicate 16 (.int .u8 0)))) := by kernel_rfl
theorem ze173 : E3 prog 173 = some ([.int .u64 0] ++ (List.replicate 32 (.int .u8 0))) := by kernel_rfl
theorem ze182 : E3 prog 182 = some ([.slice none 0 0] ++ [.slice none 0 0]) := by kernel_rfl
theorem ze194 : E3 prog 194 = some ([.slice none 0 0] ++ [.slice none 0 0] ++ [.slice none 0 0]) := by kernel_rfl
theorem ze198 : E3 prog 198 = some ((List.replicate 32 (.int .u8 0)) ++ [.slice none 0 0]) := by kernel_rfl
theorem ze224 : E3 prog 224 = some (List.replicate 8 (.int .u32 0)) := by kernel_rfl
theorem ze243 : E3 prog 243 = some ([.int .i64 0] ++ [.map none] ++ (List.replicate 1056 (.int .u8 0))) := by kernel_rfl
theorem ze249 : E3 prog 249 = some ([.int .i64 0] ++ [.int .u64 0]) := by kernel_rfl
theorem ze264 : E3 prog 264 = some ([.int .i64 0] ++ [.int .u64 0]) := by kernel_rfl
theorem ze265 : E3 prog 265 = some ([.int .i64 0] ++ [.int .u64 0]) := by kernel_rfl
theorem ze302 : E3 prog 302 = some (List.replicate 64 (.int .u32 0)) := by kernel_rfl
theorem ze353 : E3 prog 353 = some [.int .u64 0] := by kernel_rfl
theorem zT {t : TypeId} {z : List Value} (h : E3 prog t = some z := by with_reducible first | exact ze3 | exact ze33 | exact ze41 | exact ze43 | exact ze46 | exact ze49 | exact ze51 | exact ze58 | exact ze63 | exact ze76 | exact ze83 | exact ze91 | exact ze93 | exact ze96 | exact ze98 | exact ze100 | exact ze105 | exact ze114 | exact ze136 | exact ze138 | exact ze140 | exact ze155 | exact ze170 | exact ze173 | exact ze182 | exact ze194 | exact ze198 | exact ze224 | exact ze243 | exact ze249 | exact ze264 | exact ze265 | exact ze302 | exact ze353) : E3 prog t = some z := h
theorem oT {t : TypeId} (h : BT prog t = true := by decide +kernel) : BT prog t = true := h
theorem rT {t : TypeId} (h : kU prog t = true := by decide +kernel) : kU prog t = true := h
theorem mx : prog.follows .mixedOrders = true := by kernel_rfl
theorem dw {C : Ctx} {Q : EQ} {env : Env} {L : List Assn} {ops : Array Oper} {id : Nat} (E : List Nat × List Nat) (h : AWl C ops Q E [] [] env L) (hm : C.P.follows .mixedOrders = true := by exact mx) : TC C (.region id ops true) Q env L := D1 E hm (Sub.nil _) h
theorem dr {C : Ctx} {Q : EQ} {env : Env} {L : List Assn} {ops : Array Oper} {id : Nat} (E : List Nat × List Nat) (h : AWl C ops Q E L [] env L) (hm : C.P.follows .mixedOrders = true := by exact mx) : TC C (.region id ops true) Q env L := D1 E hm (Sub.refl _) h
end Go.Proofs.YtgdjcmehlhebdaaGreatDoor
namespace Go.E
def p6 (a : Nat × Nat) : Value := .agg #[.int .i64 (a.1 : Int), .int .u64 (a.2 : Int)]
theorem aE {P : Program} {w : World} {T : TypeId} {k : IntKind} {xs : Array Value} {off : Nat} {v : Value} (ht : P.underlying T = some (.int k)) (hx : xs[off]? = some v) : (part T xs off).run P w = .ok v w :=
 run_part_plain w (by unfold Program.plainKey; rw [ht]) hx
theorem keyAt {P : Program} {T : TypeId} {f g : Field} (ht : P.underlying T = some (.struct #[f, g])) (hf : f.name ≠ "_") (hg : g.name ≠ "_") (hfo : f.offset = 0) (hgo : g.offset = 1)
  (hft : P.underlying f.type = some (.int .i64)) (s7 : P.underlying g.type = some (.int .u64)) (hp : P.stoodInHeld T = false) : KeyLaw P T p6 where
 desc := ⟨_, ht, .inr fun _ _ => rfl⟩
 eq a b w := by
  have hfs : P.fieldsOf T = #[f, g] := by unfold Program.fieldsOf; rw [ht]
  have h : (Op.equalIn (9999 + 1) T (p6 a) (p6 b)).run P w = .ok (decide (a = b)) w := by
   unfold p6
   rw [run_equalIn_struct w 9999 T _ _ (by rw [ht, hfs]) hp, hfs]
   simp only [Op.eqFields, hf, hg, ne_eq, not_false_eq_true, if_true, Sem.run_bind]
   rw [aE (v := .int .i64 (a.1 : Int)) hft (by rw [hfo]; rfl), Result.andThen_ok, aE (v := .int .i64 (b.1 : Int)) hft (by rw [hfo]; rfl), Result.andThen_ok, run_equalIn_int w 9998 _ _ _ _ _ hft, Result.andThen_ok]
   by_cases h1 : a.1 = b.1
   ·rw [if_neg (by simp [h1]), Sem.run_bind, aE (v := .int .u64 (a.2 : Int)) s7 (by rw [hgo]; rfl), Result.andThen_ok, Sem.run_bind, aE (v := .int .u64 (b.2 : Int)) s7 (by rw [hgo]; rfl), Result.andThen_ok, Sem.run_bind, run_equalIn_int w 9998 _ _ _ _ _ s7, Result.andThen_ok]
    by_cases h2 : a.2 = b.2
    ·rw [if_neg (by simp [h2])]
     have : a = b := Prod.ext h1 h2
     simp [this]
    ·rw [if_pos (by simp only [Bool.not_eq_true', beq_eq_false_iff_ne]; omega)]
     have : a ≠ b := fun e => h2 (by rw [e])
     simp [this]
   ·rw [if_pos (by simp only [Bool.not_eq_true', beq_eq_false_iff_ne]; omega)]
    have : a ≠ b := fun e => h1 (by rw [e])
    simp [this]
  exact h
 check e a w := by
  have h : (Instr.checkKey e (9999 + 1) T (p6 a)).run P w = .ok () w := by
   unfold p6 Instr.checkKey
   simp only [Sem.run_bind, run_underlying ht, Result.andThen_ok]
   have h1 : ∀ w : World, (Instr.checkKey e 9999 f.type (.int .i64 (a.1 : Int))).run P w = .ok () w := fun w => iW hft 9998
   have h2 : ∀ w : World, (Instr.checkKey e 9999 g.type (.int .u64 (a.2 : Int))).run P w = .ok () w := fun w => iW s7 9998
   have p1 : ∀ w : World, (part f.type #[Value.int .i64 (a.1 : Int), .int .u64 (a.2 : Int)] f.offset).run P w = .ok (.int .i64 (a.1 : Int)) w := fun w => aE hft (by rw [hfo]; rfl)
   have p2 : ∀ w : World, (part g.type #[Value.int .i64 (a.1 : Int), .int .u64 (a.2 : Int)] g.offset).run P w = .ok (.int .u64 (a.2 : Int)) w := fun w => aE s7 (by rw [hgo]; rfl)
   rw [← Array.forIn_toList]
   simp only [List.forIn_cons, List.forIn_nil, hf, hg, ne_eq, not_false_eq_true, if_true, Sem.run_bind, p1, p2, h1, h2, Result.andThen_ok, Sem.run_pure]
  exact h
 bits a := by
  have h1 : ∀ n, Instr.sameBits n (.int .i64 (a.1 : Int)) (.int .i64 (a.1 : Int)) = (IntKind.i64 == IntKind.i64 && (a.1 : Int) == (a.1 : Int)) := fun n => by unfold Instr.sameBits; rfl
  have h2 : ∀ n, Instr.sameBits n (.int .u64 (a.2 : Int)) (.int .u64 (a.2 : Int)) = (IntKind.u64 == IntKind.u64 && (a.2 : Int) == (a.2 : Int)) := fun n => by unfold Instr.sameBits; rfl
  unfold p6 Instr.sameBits
  simp [h1, h2]
def q7 (E : Nat → i6) (gh mb : Nat) : List Value := .int .i64 (gh : Int) :: .map (some mb) :: m9 (H3 E)
theorem EB {gh l p : Nat} (h : l ≤ gh) : p / 2 ^ (gh - l) = 0 ↔ N0 gh (l, p) := by
 rw [Nat.div_eq_zero_iff_lt (Nat.two_pow_pos _)]
 exact ⟨fun k => ⟨h, k⟩, fun k => k.2⟩
theorem aX {gh l p : Nat} (hh : gh ≤ 32) (h : N0 gh (l, p)) : l ≤ 32 ∧ p < 4294967296 := by
 refine ⟨Nat.le_trans h.1 hh, Nat.lt_of_lt_of_le h.2 ?_⟩
 exact Nat.pow_le_pow_right (n := 2) (by decide) (show gh - l ≤ 32 by omega)
theorem xW (E : Nat → i6) (ms : Tm) (a : Nat × Nat) {h : i6} (hl : look a ms = some h) : s4 E ms a = h := by simp [s4, hl]
theorem xX (E : Nat → i6) (ms : Tm) (a : Nat × Nat) (hl : look a ms = none) : s4 E ms a = E a.1 := by simp [s4, hl]
theorem ziL {E : Nat → i6} {ms : Tm} {a : Nat × Nat} {h : i6} (e : h = E a.1) : wT E ms a h = Y9 a ms := if_pos e
theorem ziM {E : Nat → i6} {ms : Tm} {a : Nat × Nat} {h : i6} (e : h ≠ E a.1) : wT E ms a h = gQ a h ms := if_neg e
variable {C : Ctx} {env : Env} {L : List Assn}
theorem A5 {T ty : TypeId} {dst : Option Tmp} {po : String} {af : Array Edge} {gj : Option (Nat × Bool)} {i j : Nat} {x y : Operand} {a b v : Value} (hx : env.ev x = a) (hy : env.ev y = b)
  (h : ∀ w, (Instr.build T #[(i, a), (j, b)]).run C.P w = .ok v w) : Qt C L ⟨dst, .build T #[(i, x), (j, y)], ty, po, af, gj⟩ env v := C8 (ps := #[(i, a), (j, b)]) (by simp [hx, hy]) h
theorem CQ {b o : Nat} {T T' : TypeId} {E : Nat → i6} {gh mb : Nat} (h : Has C L (Blk b T' (q7 E gh mb))) (i : Nat) (hT : kU C.P T = true) (hs : (C.P.info? T).map (·.size) = some 32) (hi : i < 33) (ho : o = 2 + i * 32) : Ld C L (some ⟨b, o, none⟩) T (hv (E i)) := by
 have hg := FS (l := H3 E) (i := i) (k := i * 32) (by rw [T5]; exact hi) rfl
 rw [qD E hi] at hg
 refine Q0 h hT (by rw [l6]; exact hs) (fun j u hj => ?_)
 subst ho
 have := hg j u hj
 rw [q7, show 2 + i * 32 + j = i * 32 + j + 1 + 1 by omega, List.getElem?_cons_succ, List.getElem?_cons_succ]
 exact this
theorem vN (i j : Nat) : i / 2 ^ j / 2 ^ 1 = i / 2 ^ (j + 1) := by rw [Nat.div_div_eq_div_mul, ← Nat.pow_add]
theorem HE {gh i : Nat} (hh : gh ≤ 32) (hi : i < 2 ^ gh) : i < 4294967296 :=
 Nat.lt_of_lt_of_le hi (show 2 ^ gh ≤ 2 ^ 32 from Nat.pow_le_pow_right (by decide) hh)
theorem JE {gh i : Nat} (h : i < 2 ^ gh) : N0 gh (0, i) := ⟨Nat.zero_le _, h⟩
def cB (E : Nat → i6) (ms : Tm) (gh i : Nat) : List i6 := (List.range gh).map fun l => s4 E ms (l, (i / 2 ^ l) ^^^ 1)
theorem pJ (E : Nat → i6) (ms : Tm) (gh i : Nat) : (cB E ms gh i).length = gh := by simp [cB]
theorem zdY (E : Nat → i6) (ms : Tm) (k i : Nat) : m9 (cB E ms k i) ++ L8 (s4 E ms (k, (i / 2 ^ k) ^^^ 1)) = m9 (cB E ms (k + 1) i) := by
 rw [cB, cB, List.range_succ, List.map_append, M3]; simp [m9]
theorem zhl {E : Nat → i6} {gh : Nat} {f : Nat → i6} {ms : Tm} (ht : TreeOk E gh f ms) {i : Nat} (hi : i < 2 ^ gh) : cB E ms gh i = gA f gh i := by
 unfold cB gA
 refine List.map_congr_left fun l hl => ?_
 have hl' : l < gh := List.mem_range.1 hl
 refine ht.get _ ⟨Nat.le_of_lt hl', ?_⟩
 have h1 := eR hi (Nat.le_of_lt hl')
 have h2 := iF hl'
 show i / 2 ^ l ^^^ 1 < 2 ^ (gh - l)
 rw [uF]
 generalize i / 2 ^ l = n at h1 ⊢
 generalize 2 ^ (gh - l) = a at h1 h2 ⊢
 split <;> omega
theorem zjH {n m : Nat} (h : n < 2 * m) : n ^^^ 1 < 2 * m := by
 rw [uF]; split <;> omega
end Go.E
namespace Go.E
structure Act where
 i : Nat
 h : i6
 d : Bool
 lt : i < 18446744073709551616
theorem aW {α : Type} {encL : α → List Value} {sz : Nat} (hlen : ∀ a, (encL a).length = sz) : ∀ (xs : List α) (i : Nat) (x : α), xs[i]? = some x → ∀ j v, (encL x)[j]? = some v → (xs.flatMap encL)[i * sz + j]? = some v
 | [], i, x, h, j, v, hj => by simp at h
 | y :: xs, 0, x, h, j, v, hj => by
  obtain rfl : y = x := by simpa using h
  rw [List.flatMap_cons, List.getElem?_append_left (by rw [Nat.zero_mul, Nat.zero_add]; exact (List.getElem?_eq_some_iff.1 hj).1), Nat.zero_mul, Nat.zero_add]
  exact hj
 | y :: xs, i + 1, x, h, j, v, hj => by
  have e : (i + 1) * sz + j = sz + (i * sz + j) := by rw [Nat.add_mul, Nat.one_mul]; omega
  rw [List.flatMap_cons, e, List.getElem?_append_right (by rw [hlen]; omega), hlen, Nat.add_sub_cancel_left]
  exact aW hlen xs i x (by simpa using h) j v hj
theorem oM {α : Type} {encL : α → List Value} {sz : Nat} (hlen : ∀ a, (encL a).length = sz) : ∀ xs : List α, (xs.flatMap encL).length = xs.length * sz
 | [] => by simp
 | x :: xs => by rw [List.flatMap_cons, List.length_append, hlen, oM hlen xs, List.length_cons, Nat.add_mul, Nat.one_mul, Nat.add_comm]
theorem getD_some {α : Type} {xs : List α} {k : Nat} (d : α) (h : k < xs.length) : xs[k]? = some (xs.getD k d) := by simp [List.getD, h]
theorem cE (gh : Nat) : N0 gh (gh, 0) := ⟨Nat.le_refl _, by simp⟩
variable {C : Ctx} {env : Env} {L : List Assn}
theorem z5 {T ty : TypeId} {dst : Option Tmp} {po : String} {af : Array Edge} {gj : Option (Nat × Bool)} {x : Operand} {fs : Array Field} {f : Field} {i k sz : Nat} {A : y8} {cs : List Value}
  (hT : C.P.underlying T = some (.struct fs)) (hf : fs[i]? = some f) (hs : (C.P.info? f.type).map (·.size) = some (sz + 1)) (hx : env.ev x = .pointer (A.map (·.add k))) (h : Has C L (SlA A cs)) (hc : k < cs.length) :
  Qt C L ⟨dst, .fieldAddr T x i, ty, po, af, gj⟩ env (.pointer (A.map (·.add (k + f.offset)))) := fun w hw => by
 obtain ⟨inf, hin, hsz⟩ := Option.map_eq_some_iff.1 hs
 obtain ⟨a, rfl, _⟩ := h w hw _ _ (List.getElem?_eq_getElem hc)
 simp [execOp, hx, Instr.fieldAt, Instr.sureAddr, run_underlying hT, hf, fieldPlace, sizeOf, typeInfo, hin, hsz, add_add]
end Go.E
namespace Go.E
abbrev Ls := List (Nat × i6)
def L5 (x : Nat × i6) : List Value := .int .u64 (x.1 : Int) :: L8 x.2
theorem I9 (x : Nat × i6) : (L5 x).length = 33 := by simp [L5, l6]
theorem aA (ls : Ls) : (ls.flatMap L5).length = ls.length * 33 := oM I9 ls
def P6 : Nat × i6 := (0, e7)
theorem lO {ls : Ls} {k : Nat} (h : k < ls.length) : ∀ j v, (L5 (ls.getD k P6))[j]? = some v → (ls.flatMap L5)[k * 33 + j]? = some v :=
 aW I9 ls k _ (getD_some P6 h)
theorem lN (x : Nat × i6) : ∀ u ∈ L5 x, u.oneCell' = true := by
 intro u hu
 rcases List.mem_cons.1 hu with rfl | hu
 ·rfl
 ·exact List.all_eq_true.1 (Y4 x.2) u hu
theorem oZ (x : Nat × i6) : (vl (.agg (L5 x).toArray)).length = 33 := by rw [o6, I9]
theorem zdN (x : Nat × i6) : ∀ j v, (L8 x.2)[j]? = some v → (L5 x)[1 + j]? = some v := fun j v h => by
 rw [L5, Nat.add_comm, List.getElem?_cons_succ]; exact h
def fL (E : Nat → i6) (ls : Ls) (j : Nat) : i6 := (look j ls).getD (E 0)
def mD (ls : Ls) (l p : Nat) : Ls := ls.filter fun x => x.1 / 2 ^ l == p
theorem vA {ls : Ls} {l p : Nat} : ∀ x ∈ mD ls l p, x.1 / 2 ^ l = p := fun x hx => by
 have := (List.mem_filter.1 hx).2; simpa using this
theorem kJ (q : Nat → Bool) (j : Nat) : ∀ ls : Ls, look j (ls.filter fun x => q x.1) = if q j = true then look j ls else none
 | [] => by simp [U8]
 | x :: ls => by
  rw [List.filter_cons]
  by_cases hq : q x.1 = true
  ·rw [if_pos hq, A6, A6, kJ q j ls]
   by_cases hj : j = x.1
   ·subst hj; simp [hq]
   ·simp [hj]
  ·rw [if_neg hq, A6, kJ q j ls]
   by_cases hj : j = x.1
   ·subst hj; simp [hq]
   ·simp [hj]
theorem zg8 (ls : Ls) {l p j : Nat} (h : j / 2 ^ l = p) : look j (mD ls l p) = look j ls := by
 rw [mD, kJ (fun n => n / 2 ^ l == p) j ls, if_pos (by simpa using h)]
theorem wE (E : Nat → i6) (ls : Ls) (l p : Nat) : s5 (fL E (mD ls l p)) l p = s5 (fL E ls) l p :=
 fY l p fun j hj => by rw [fL, zg8 ls hj]; rfl
theorem oG (ls : Ls) {k : Nat} (l p : Nat) (h : k < ls.length) : mD (ls.take (k + 1)) l p = if (ls.getD k P6).1 / 2 ^ l = p then mD (ls.take k) l p ++ [ls.getD k P6] else mD (ls.take k) l p := by
 have e : ls.take (k + 1) = ls.take k ++ [ls.getD k P6] := by
  rw [List.take_succ_eq_append_getElem h]; simp [List.getD, h]
 rw [e, mD, List.filter_append]
 generalize ls.getD k P6 = x
 split
 ·rename_i hp; simp [mD, hp]
 ·rename_i hp; simp [mD, hp]
def kT (ls : Ls) (l p : Nat) : Ls := ls.filter fun x => !(x.1 / 2 ^ l == p)
theorem zV (ls : Ls) {k : Nat} (l p : Nat) (h : k < ls.length) : kT (ls.take (k + 1)) l p = if (ls.getD k P6).1 / 2 ^ l = p then kT (ls.take k) l p else kT (ls.take k) l p ++ [ls.getD k P6] := by
 have e : ls.take (k + 1) = ls.take k ++ [ls.getD k P6] := by
  rw [List.take_succ_eq_append_getElem h]; simp [List.getD, h]
 rw [e, kT, List.filter_append]
 generalize ls.getD k P6 = x
 split
 ·rename_i hp; simp [kT, hp]
 ·rename_i hp; simp [kT, hp]
theorem EO {ls : Ls} {l p : Nat} (h : ∀ x ∈ ls, x.1 / 2 ^ (l + 1) = p) : kT ls l (2 * p) = mD ls l (2 * p + 1) := by
 unfold kT mD
 refine List.filter_congr fun x hx => ?_
 have h1 := h x hx
 rw [← vN, Nat.pow_one] at h1
 generalize x.1 / 2 ^ l = n at h1 ⊢
 by_cases e : n = 2 * p
 ·have : n ≠ 2 * p + 1 := by omega
  simp [e]
 ·have : n = 2 * p + 1 := by omega
  simp [this]
theorem zhd {E : Nat → i6} (hE : ∀ h, E (h + 1) = F8 (h + 1) (E h) (E h)) (l p : Nat) : s5 (fL E []) l p = E l := sH hE l p fun _ _ => rfl
theorem zfo {E : Nat → i6} {ls : Ls} {p : Nat} (hne : 0 < ls.length) (h : ∀ x ∈ ls, x.1 / 2 ^ 0 = p) : s5 (fL E ls) 0 p = (ls.getD 0 P6).2 := by
 cases ls with
 | nil => simp at hne
 | cons x ls =>
  have hx := h x (List.mem_cons_self ..)
  rw [Nat.pow_zero, Nat.div_one] at hx
  simp [s5, fL, A6, hx]
theorem zdR {E : Nat → i6} {ls : Ls} {l p : Nat} (h : ∀ x ∈ ls, x.1 / 2 ^ (l + 1) = p) : F8 (l + 1) (s5 (fL E (mD ls l (2 * p))) l (2 * p)) (s5 (fL E (kT ls l (2 * p))) l (2 * p + 1)) = s5 (fL E ls) (l + 1) p := by
 rw [EO h, wE, wE]; rfl
theorem iN {α : Type} (ls : List α) {k : Nat} (h : ls.length ≤ k) : ls.take k = ls := List.take_of_length_le h
theorem oH (ls : Ls) (k l p : Nat) (h : k ≤ ls.length) : (mD (ls.take k) l p).length ≤ k := by
 refine Nat.le_trans (List.length_filter_le ..) ?_
 rw [List.length_take]; omega
theorem zaR (ls : Ls) (k l p : Nat) (h : k ≤ ls.length) : (kT (ls.take k) l p).length ≤ k := by
 refine Nat.le_trans (List.length_filter_le ..) ?_
 rw [List.length_take]; omega
theorem E6 {α : Type} {ls : List α} {k : Nat} (d : α) (h : k < ls.length) : ls.getD k d ∈ ls := by
 have : ls.getD k d = ls[k] := by simp [List.getD, h]
 rw [this]; exact List.getElem_mem h
theorem s9 {α : Type} (a : List α) (x : α) : (a ++ [x]).length = a.length + 1 := by simp
theorem Y0 {α β : Type} (f : α → List β) (a : List α) (x : α) : (a ++ [x]).flatMap f = a.flatMap f ++ f x := by simp
theorem zcf {n : Nat} (h : n % 2 = 0) : n + 1 = n ^^^ 1 := by rw [uF, if_pos h]
theorem zdh {n : Nat} (h : ¬ n % 2 = 0) : n - 1 = n ^^^ 1 := by rw [uF, if_neg h]
theorem wG {gh l p : Nat} (hh : gh ≤ 32) (h : N0 gh (l, p)) : (p + 1) * 2 ^ l ≤ 9223372036854775808 := by
 obtain ⟨h1, h2⟩ := h
 have h1' : l ≤ gh := h1
 have h2' : p + 1 ≤ 2 ^ (gh - l) := h2
 have h3 : (p + 1) * 2 ^ l ≤ 2 ^ (gh - l) * 2 ^ l := Nat.mul_le_mul_right _ h2'
 rw [← Nat.pow_add, show gh - l + l = gh by omega] at h3
 have h4 : 2 ^ gh ≤ 2 ^ 32 := Nat.pow_le_pow_right (by decide) hh
 omega
theorem zdm {l p : Nat} (h : (p + 1) * 2 ^ (l + 1) ≤ 9223372036854775808) : p < 9223372036854775808 ∧ (2 * p + 1) * 2 ^ l ≤ 9223372036854775808 ∧ (2 * p + 1 + 1) * 2 ^ l ≤ 9223372036854775808 := by
 have e : (2 * p + 1 + 1) * 2 ^ l = (p + 1) * 2 ^ (l + 1) := by rw [Nat.pow_succ, show 2 * p + 1 + 1 = (p + 1) * 2 by omega, Nat.mul_assoc, Nat.mul_comm 2]
 have h1 : p + 1 ≤ (p + 1) * 2 ^ (l + 1) := Nat.le_mul_of_pos_right _ (Nat.two_pow_pos _)
 refine ⟨by omega, ?_, by rw [e]; exact h⟩
 refine Nat.le_trans (Nat.mul_le_mul_right _ (by omega : 2 * p + 1 ≤ 2 * p + 1 + 1)) (by rw [e]; exact h)
theorem zbu (f : Nat → i6) (gh i : Nat) : (gA f gh i).length = gh := by simp [gA]
theorem wM (f : Nat → i6) (k i : Nat) : m9 (gA f k i) ++ L8 (s5 f k ((i / 2 ^ k) ^^^ 1)) = m9 (gA f (k + 1) i) := by
 rw [gA, gA, List.range_succ, List.map_append, M3]; simp [m9]
theorem yR {gh i k : Nat} (hi : i < 2 ^ gh) (hk : k < gh) : N0 gh (k, (i / 2 ^ k) ^^^ 1) := by
 refine ⟨Nat.le_of_lt hk, ?_⟩
 have h1 := eR hi (Nat.le_of_lt hk)
 have h2 := iF hk
 show i / 2 ^ k ^^^ 1 < 2 ^ (gh - k)
 rw [h2] at h1 ⊢
 exact zjH h1
def K7 (x : Nat) : Nat := if x = 0 then 0 else Nat.log2 x + 1
theorem kA : K7 0 = 0 := rfl
theorem pY (x : Nat) : x < 2 ^ K7 x := by
 unfold K7; split
 ·subst_vars; decide
 ·exact Nat.lt_log2_self
theorem lF {x : Nat} (h : x ≠ 0) : 2 ^ (K7 x - 1) ≤ x := by
 rw [K7, if_neg h, Nat.add_sub_cancel]; exact Nat.log2_self_le h
theorem zdi {x : Nat} (h : x ≠ 0) : 1 ≤ K7 x := by rw [K7, if_neg h]; omega
theorem rQ {x k : Nat} (h1 : x < 2 ^ k) (h2 : k = 0 ∨ 2 ^ (k - 1) ≤ x) : K7 x = k := by
 have a := pY x
 rcases Nat.lt_trichotomy (K7 x) k with h | h | h
 ·rcases h2 with h2 | h2
  ·omega
  ·have : 2 ^ K7 x ≤ 2 ^ (k - 1) := Nat.pow_le_pow_right (by decide) ow
   omega
 ·exact h
 ·have hx : x ≠ 0 := fun e => by rw [e, kA] at h; omega
  have := lF hx
  have : 2 ^ k ≤ 2 ^ (K7 x - 1) := Nat.pow_le_pow_right (by decide) ow
  omega
theorem dQ {x n : Nat} (h : 2 ^ n ≤ x) : K7 x = n + K7 (x / 2 ^ n) := by
 have hy : x / 2 ^ n ≠ 0 := by
  have := (Nat.le_div_iff_mul_le (Nat.two_pow_pos n)).2 (by rw [Nat.one_mul]; exact h)
  omega
 have a := pY (x / 2 ^ n)
 have b := lF hy
 have c := zdi hy
 refine rQ ?_ (.inr ?_)
 ·rw [Nat.pow_add, Nat.mul_comm]; exact (Nat.div_lt_iff_lt_mul (Nat.two_pow_pos n)).1 a
 ·have := Nat.le_trans (Nat.mul_le_mul_right (2 ^ n) b) (Nat.div_mul_le_self x (2 ^ n))
  rw [← Nat.pow_add] at this
  rwa [show n + K7 (x / 2 ^ n) - 1 = K7 (x / 2 ^ n) - 1 + n by omega]
def len8L : List UInt8 := (List.range 256).map fun i => UInt8.ofNat (K7 i)
theorem tZ (s : ByteArray) (hs : s.data = len8L.toArray) {i : Nat} (h : i < 256) : s[i]? = some (UInt8.ofNat (K7 i)) := by
 have h1 : s.data[i]? = some (UInt8.ofNat (K7 i)) := by rw [hs]; simp [len8L, h]
 have hl : i < s.data.size := (Array.getElem?_eq_some_iff.1 h1).1
 have hl' : i < s.size := hl
 rw [getElem?_pos s i hl']
 have := Array.getElem?_eq_some_iff.1 h1
 exact congrArg some this.2
theorem C9 {i : Nat} (h : i < 256) : K7 i ≤ 8 := by
 rcases Nat.lt_or_ge 8 (K7 i) with h1 | h1
 ·have hx : i ≠ 0 := fun e => by rw [e, kA] at h1; omega
  have := lF hx
  have : 2 ^ 8 ≤ 2 ^ (K7 i - 1) := Nat.pow_le_pow_right (by decide) ow
  omega
 ·exact h1
theorem pB {i : Nat} (h : i < 256) : (UInt8.ofNat (K7 i)).toNat = K7 i := by
 have := C9 h
 rw [UInt8.toNat_ofNat', Nat.mod_eq_of_lt ow]
/-! heights -/
def fE (n : Nat) : Prop := 1 ≤ n ∧ n ≤ 4294967296
instance (n : Nat) : Decidable (fE n) := inferInstanceAs (Decidable (_ ∧ _))
def s7 (n : Nat) : Nat := K7 (n - 1)
theorem aL {n : Nat} (h : fE n) : s7 n ≤ 32 := by
 obtain ⟨h1, h2⟩ := h
 rcases Nat.lt_or_ge 32 (s7 n) with h3 | h3
 ·unfold s7 at h3
  have hx : n - 1 ≠ 0 := fun e => by rw [e, kA] at h3; omega
  have := lF hx
  have : 2 ^ 32 ≤ 2 ^ (K7 (n - 1) - 1) := Nat.pow_le_pow_right (by decide) ow
  omega
 ·exact h3
theorem gK {n : Nat} (h : fE n) : n ≤ 2 ^ s7 n := by
 have := pY (n - 1)
 obtain ⟨h1, h2⟩ := h
 unfold s7; omega
theorem zgZ {n k : Nat} (hn : fE n) (h1 : n ≤ 2 ^ k) (h2 : k = 0 ∨ 2 ^ (k - 1) < n) : k = s7 n := by
 obtain ⟨h3, h4⟩ := hn
 refine (rQ ?_ ?_).symm
 ·omega
 ·rcases h2 with h2 | h2
  ·exact .inl h2
  ·exact .inr ow
def w9 (x : i6) (i : Nat) (ps : List i6) : Nat → i6
 | 0 => x
 | k + 1 => if i / 2 ^ k % 2 = 1 then F8 (k + 1) (ps.getD k e7) (w9 x i ps k) else F8 (k + 1) (w9 x i ps k) (ps.getD k e7)
def zja (x : i6) (i : Nat) (ps : List i6) : i6 := w9 x i ps ps.length
theorem qB {x : i6} {i : Nat} {ps : List i6} {k : Nat} (h : i / 2 ^ k % 2 = 1) : w9 x i ps (k + 1) = F8 (k + 1) (ps.getD k e7) (w9 x i ps k) := by rw [w9, if_pos h]
theorem mW {x : i6} {i : Nat} {ps : List i6} {k : Nat} (h : ¬ i / 2 ^ k % 2 = 1) : w9 x i ps (k + 1) = F8 (k + 1) (w9 x i ps k) (ps.getD k e7) := by rw [w9, if_neg h]
def dA (i n : Nat) : Prop := n ≤ 32 ∧ i / 2 ^ n = 0
instance (i n : Nat) : Decidable (dA i n) := inferInstanceAs (Decidable (_ ∧ _))
theorem v8 (i k : Nat) : i / 2 ^ k / 2 = i / 2 ^ (k + 1) := by rw [← vN, Nat.pow_one]
theorem zcw (l : List i6) (rest : List Value) (i : Nat) (x : i6) (h : i < l.length) : (m9 l ++ rest).take (i * 32) ++ vl (hv x) ++ (m9 l ++ rest).drop (i * 32 + (vl (hv x)).length) = m9 (l.set i x) ++ rest := by
 have hl := m7 l
 have h1 : i * 32 + 32 ≤ (m9 l).length := by rw [hl]; omega
 rw [List.take_append_of_le_length ow, List.drop_append_of_le_length (by rw [v9]; exact h1), ← List.append_assoc, GQ l i x h]
theorem vD (x : i6) (v : Value) : (vl (.agg (L8 x ++ [v]).toArray))[32]? = some v := by
 rw [o6, List.getElem?_append_right (by rw [l6]; exact Nat.le_refl _), l6]; rfl
theorem vC (x : i6) (u : Value) : ∀ j v, (L8 x)[j]? = some v → (vl (.agg (L8 x ++ [u]).toArray))[0 + j]? = some v := fun j v h => by
 rw [o6, Nat.zero_add, List.getElem?_append_left (List.getElem?_eq_some_iff.1 h).1]; exact h
theorem U6 (x : i6) (u : Value) : (L8 x ++ [u]).length = 33 := by simp [l6]
theorem zdD {xs : List i6} (h : m9 xs = []) : xs = [] := by
 have := congrArg List.length h
 rw [m7] at this
 exact List.eq_nil_of_length_eq_zero (by simp at this; omega)
variable {C : Ctx} {Q : EQ} {env : Env} {ops : Array Oper}
theorem zb6 {e : TypeId} {sz : Nat} {A : y8} {n c : Nat} {xs : List Value} {L : List Assn} {l : List Oper} (hn : 0 < n)
  (h1 : ∀ g cs, A = some ⟨g, 0, none⟩ → cs.take (n * sz) = xs → cs.length = c * sz → n ≤ c → c ≤ maxLen → TL C ops Q l env (Blk g e cs :: L)) : TL C ops Q l env (OwnA e sz A n c xs :: L) := fun a w ha hw => by
 have hok := hw.ok (A := OwnA e sz A n c xs) (List.mem_cons_self ..)
 rcases OwnA.blk hok with ⟨rfl, rfl, rfl, rfl⟩ | ⟨g, cs, rfl, hb, ht, hl, hn, hm⟩
 ·exact absurd hn (Nat.lt_irrefl 0)
 ·have hw' : St C.w0 C.M ([] ++ OwnA e sz (some ⟨g, 0, none⟩) n c xs :: L) w := hw
  exact h1 g cs rfl ht hl hn hm a w ha (hw'.upd (A' := Blk g e cs) rfl rfl rfl rfl rfl (fun _ _ => rfl) hb)
theorem zfE {n : Nat} {cs : List Value} {xs : List i6} (h : cs.take (n * 32) = m9 xs) : cs = m9 xs ++ cs.drop (n * 32) := by rw [← h, List.take_append_drop]
end Go.E
namespace Go.E
abbrev Sd := List (Nat × Nat)
def l4 (a : Nat) : Nat → Sd
 | 0 => []
 | k + 1 => if a / 2 ^ k % 2 = 1 then l4 a k ++ [(k, a / 2 ^ k - 1)] else l4 a k
def j6 (b : Nat) : Nat → Sd
 | 0 => []
 | k + 1 => if b / 2 ^ k % 2 = 0 then j6 b k ++ [(k, b / 2 ^ k + 1)] else j6 b k
theorem T9 {a k : Nat} (h : a / 2 ^ k % 2 = 1) : l4 a (k + 1) = l4 a k ++ [(k, a / 2 ^ k - 1)] := if_pos h
theorem W5 {a k : Nat} (h : ¬ a / 2 ^ k % 2 = 1) : l4 a (k + 1) = l4 a k := if_neg h
theorem U0 {b k : Nat} (h : b / 2 ^ k % 2 = 0) : j6 b (k + 1) = j6 b k ++ [(k, b / 2 ^ k + 1)] := if_pos h
theorem W6 {b k : Nat} (h : ¬ b / 2 ^ k % 2 = 0) : j6 b (k + 1) = j6 b k := if_neg h
theorem AF {gh a k : Nat} (ha : a < 2 ^ gh) (hk : k < gh) (h : a / 2 ^ k % 2 = 1) : N0 gh (k, a / 2 ^ k - 1) := by
 have h1 := eR ha (Nat.le_of_lt hk)
 exact ⟨Nat.le_of_lt hk, by show a / 2 ^ k - 1 < 2 ^ (gh - k); generalize a / 2 ^ k = n at h1 ⊢; omega⟩
theorem xM {gh b k : Nat} (hb : b < 2 ^ gh) (hk : k < gh) (h : b / 2 ^ k % 2 = 0) : N0 gh (k, b / 2 ^ k + 1) := by
 have h1 := eR hb (Nat.le_of_lt hk)
 have h2 := iF hk
 refine ⟨Nat.le_of_lt hk, ?_⟩
 show b / 2 ^ k + 1 < 2 ^ (gh - k)
 rw [h2] at h1 ⊢
 generalize b / 2 ^ k = n at h h1 ⊢
 generalize 2 ^ (gh - (k + 1)) = m at h1 ⊢
 omega
def zjE (gh first : Nat) (many : Int) : Prop := 1 ≤ many ∧ many ≤ 256 ∧ first + many.toNat ≤ 2 ^ gh
instance (gh first : Nat) (many : Int) : Decidable (zjE gh first many) := inferInstanceAs (Decidable (_ ∧ _ ∧ _))
theorem bI (a : Nat) : ∀ k, (l4 a k).length ≤ k
 | 0 => Nat.le_refl _
 | k + 1 => by
  have := bI a k
  rw [l4]; split <;> simp <;> omega
theorem Y3 (b : Nat) : ∀ k, (j6 b k).length ≤ k
 | 0 => Nat.le_refl _
 | k + 1 => by
  have := Y3 b k
  rw [j6]; split <;> simp <;> omega
open Go.Joins Go.ChangeShapes Go.WideShapes Go.RowKit Go.Deep
section
variable {H : Type} {enc : TypeId × Value → H} {P : Program} {w : World} {base : Nat} {spare : Nat → Bool} {held : Bool}
end
theorem iC {z : Int} (h : (Lit.int .u64 z).wf = true) : 0 ≤ z ∧ z ≤ 18446744073709551615 := by
 have := h
 simp [Lit.wf, IntKind.min, IntKind.max, IntKind.signed, IntKind.bits] at this
 constructor <;> omega
theorem zfg {z : Int} (h : (Lit.int .i64 z).wf = true) : -9223372036854775808 ≤ z ∧ z ≤ 9223372036854775807 := by
 have := h
 simp [Lit.wf, IntKind.min, IntKind.max, IntKind.signed, IntKind.bits] at this
 constructor <;> omega
theorem GJ {w : World} {a : Addr} {v : Value} (h : w.cell? a = some v) : a.block < w.heap.size := by
 refine Decidable.byContradiction fun hn => ?_
 have hg : w.heap[a.block]? = none := Array.getElem?_eq_none ow
 simp [World.cell?, hg] at h
theorem zgx {w w' : World} (h : St w [] [] w') : Below w.heap.size w w' := ⟨h.os, h.tape, h.output, h.size, fun k hk => h.block k hk (fun hn => by cases hn)⟩
end Go.E
