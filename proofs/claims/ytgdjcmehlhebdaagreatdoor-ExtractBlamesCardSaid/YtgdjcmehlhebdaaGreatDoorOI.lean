/- Facts of the table that the turned walks need -/
import Derived.Test.YtgdjcmehlhebdaaGreatDoorYTT
set_option maxHeartbeats 25600000
namespace Go.Proofs.YtgdjcmehlhebdaaGreatDoor
open _root_.Go.Proofs.Tryz
open Go.E
set_option maxRecDepth 4000
theorem cells5 : (prog.info? 5).map (·.size) = some 1 := by kernel_rfl
theorem plain223 : prog.plainKey 223 = true := by kernel_rfl
theorem J21 : zae prog 21 := ⟨_, func21, by kernel_rfl, rfl⟩
theorem J27 : zae prog 27 := ⟨_, func27, by kernel_rfl, rfl⟩
theorem J35 : zae prog 35 := ⟨_, func35, by kernel_rfl, rfl⟩
theorem J39 : zae prog 39 := ⟨_, func39, by kernel_rfl, rfl⟩
theorem J41 : zae prog 41 := ⟨_, func41, by kernel_rfl, rfl⟩
theorem J44 : zae prog 44 := ⟨_, func44, by kernel_rfl, rfl⟩
theorem J45 : zae prog 45 := ⟨_, func45, by kernel_rfl, rfl⟩
theorem J50 : zae prog 50 := ⟨_, func50, by kernel_rfl, rfl⟩
theorem J55 : zae prog 55 := ⟨_, func55, by kernel_rfl, rfl⟩
theorem J57 : zae prog 57 := ⟨_, func57, by kernel_rfl, rfl⟩
theorem J67 : zae prog 67 := ⟨_, func67, by kernel_rfl, rfl⟩
theorem J80 : zae prog 80 := ⟨_, func80, by kernel_rfl, rfl⟩
theorem J82 : zae prog 82 := ⟨_, func82, by kernel_rfl, rfl⟩
theorem J83 : zae prog 83 := ⟨_, func83, by kernel_rfl, rfl⟩
theorem J84 : zae prog 84 := ⟨_, func84, by kernel_rfl, rfl⟩
theorem J93 : zae prog 93 := ⟨_, func93, by kernel_rfl, rfl⟩
theorem J94 : zae prog 94 := ⟨_, func94, by kernel_rfl, rfl⟩
theorem J95 : zae prog 95 := ⟨_, func95, by kernel_rfl, rfl⟩
theorem J96 : zae prog 96 := ⟨_, func96, by kernel_rfl, rfl⟩
theorem J99 : zae prog 99 := ⟨_, func99, by kernel_rfl, rfl⟩
theorem J103 : zae prog 103 := ⟨_, func103, by kernel_rfl, rfl⟩
theorem J110 : zae prog 110 := ⟨_, func110, by kernel_rfl, rfl⟩
theorem J111 : zae prog 111 := ⟨_, func111, by kernel_rfl, rfl⟩
theorem J113 : zae prog 113 := ⟨_, func113, by kernel_rfl, rfl⟩
theorem J114 : zae prog 114 := ⟨_, func114, by kernel_rfl, rfl⟩
theorem J117 : zae prog 117 := ⟨_, func117, by kernel_rfl, rfl⟩
theorem J118 : zae prog 118 := ⟨_, func118, by kernel_rfl, rfl⟩
theorem J120 : zae prog 120 := ⟨_, func120, by kernel_rfl, rfl⟩
theorem J121 : zae prog 121 := ⟨_, func121, by kernel_rfl, rfl⟩
theorem J126 : zae prog 126 := ⟨_, func126, by kernel_rfl, rfl⟩
theorem J135 : zae prog 135 := ⟨_, func135, by kernel_rfl, rfl⟩
theorem J138 : zae prog 138 := ⟨_, func138, by kernel_rfl, rfl⟩
theorem J139 : zae prog 139 := ⟨_, func139, by kernel_rfl, rfl⟩
theorem J140 : zae prog 140 := ⟨_, func140, by kernel_rfl, rfl⟩
theorem J141 : zae prog 141 := ⟨_, func141, by kernel_rfl, rfl⟩
theorem J142 : zae prog 142 := ⟨_, func142, by kernel_rfl, rfl⟩
theorem J143 : zae prog 143 := ⟨_, func143, by kernel_rfl, rfl⟩
theorem J144 : zae prog 144 := ⟨_, func144, by kernel_rfl, rfl⟩
theorem J150 : zae prog 150 := ⟨_, func150, by kernel_rfl, rfl⟩
theorem J151 : zae prog 151 := ⟨_, func151, by kernel_rfl, rfl⟩
theorem J152 : zae prog 152 := ⟨_, func152, by kernel_rfl, rfl⟩
theorem J153 : zae prog 153 := ⟨_, func153, by kernel_rfl, rfl⟩
theorem J154 : zae prog 154 := ⟨_, func154, by kernel_rfl, rfl⟩
theorem J155 : zae prog 155 := ⟨_, func155, by kernel_rfl, rfl⟩
theorem J156 : zae prog 156 := ⟨_, func156, by kernel_rfl, rfl⟩
theorem J158 : zae prog 158 := ⟨_, func158, by kernel_rfl, rfl⟩
theorem J159 : zae prog 159 := ⟨_, func159, by kernel_rfl, rfl⟩
theorem J160 : zae prog 160 := ⟨_, func160, by kernel_rfl, rfl⟩
theorem J166 : zae prog 166 := ⟨_, func166, by kernel_rfl, rfl⟩
theorem J170 : zae prog 170 := ⟨_, func170, by kernel_rfl, rfl⟩
theorem J171 : zae prog 171 := ⟨_, func171, by kernel_rfl, rfl⟩
theorem J172 : zae prog 172 := ⟨_, func172, by kernel_rfl, rfl⟩
theorem J173 : zae prog 173 := ⟨_, func173, by kernel_rfl, rfl⟩
theorem J176 : zae prog 176 := ⟨_, func176, by kernel_rfl, rfl⟩
theorem J177 : zae prog 177 := ⟨_, func177, by kernel_rfl, rfl⟩
theorem J178 : zae prog 178 := ⟨_, func178, by kernel_rfl, rfl⟩
theorem J180 : zae prog 180 := ⟨_, func180, by kernel_rfl, rfl⟩
theorem J181 : zae prog 181 := ⟨_, func181, by kernel_rfl, rfl⟩
theorem J183 : zae prog 183 := ⟨_, func183, by kernel_rfl, rfl⟩
theorem J187 : zae prog 187 := ⟨_, func187, by kernel_rfl, rfl⟩
theorem J188 : zae prog 188 := ⟨_, func188, by kernel_rfl, rfl⟩
theorem J191 : zae prog 191 := ⟨_, func191, by kernel_rfl, rfl⟩
theorem J192 : zae prog 192 := ⟨_, func192, by kernel_rfl, rfl⟩
theorem J193 : zae prog 193 := ⟨_, func193, by kernel_rfl, rfl⟩
theorem J196 : zae prog 196 := ⟨_, func196, by kernel_rfl, rfl⟩
theorem J197 : zae prog 197 := ⟨_, func197, by kernel_rfl, rfl⟩
theorem J198 : zae prog 198 := ⟨_, func198, by kernel_rfl, rfl⟩
theorem J199 : zae prog 199 := ⟨_, func199, by kernel_rfl, rfl⟩
theorem J200 : zae prog 200 := ⟨_, func200, by kernel_rfl, rfl⟩
theorem J201 : zae prog 201 := ⟨_, func201, by kernel_rfl, rfl⟩
theorem J204 : zae prog 204 := ⟨_, func204, by kernel_rfl, rfl⟩
theorem J205 : zae prog 205 := ⟨_, func205, by kernel_rfl, rfl⟩
theorem J206 : zae prog 206 := ⟨_, func206, by kernel_rfl, rfl⟩
theorem J211 : zae prog 211 := ⟨_, func211, by kernel_rfl, rfl⟩
theorem J212 : zae prog 212 := ⟨_, func212, by kernel_rfl, rfl⟩
theorem J213 : zae prog 213 := ⟨_, func213, by kernel_rfl, rfl⟩
theorem J214 : zae prog 214 := ⟨_, func214, by kernel_rfl, rfl⟩
theorem elem5 : zcn prog 5 1 1 := zcv (by kernel_rfl)
theorem elem40 : zcn prog 40 1 8 := zcv (by kernel_rfl)
theorem elem49 : zcn prog 49 32 32 := zcv (by kernel_rfl)
theorem elem112 : zcn prog 112 1 24 := zcv (by kernel_rfl)
theorem elem114 : zcn prog 114 2 48 := zcv (by kernel_rfl)
theorem mixed : prog.follows .mixedOrders = true := by kernel_rfl
end Go.Proofs.YtgdjcmehlhebdaaGreatDoor
namespace Go.E
section brief
variable {C : Ctx} {Q : EQ} {env : Env} {L : List Assn} {ops : Array Oper} {rest : List Oper} {d : Nat} {op : Op} {ty : TypeId} {pos : String} {after : Array Edge} {v : Value} {gd : Nat × Bool} {E : List Nat × List Nat} {F : List Assn} {dn : List Nat} {f : FuncId} {args : Array Operand} {tys : Array TypeId} {φ : Value → List Assn → Prop}
theorem cof {P : Program} {f : FuncId} {fn : Func} {c : Code} {args : Array Value} {w0 : World} {L : List Assn} (n : Nat) (rs : List ResultVar) (hf : P.funcs[f]? = some fn) (hL : Sat w0 L) (h : TC ⟨P, n, w0, fps L, none⟩ c (finQ ⟨P, n, w0, fps L, none⟩ rs φ) (env0 args) L)
  (hb : fn.body = some c := by rfl) (hn : fn.ntmps = n := by rfl) (hr : fn.results.toList = rs := by rfl) (ha : args.size ≤ n := by exact Nat.le_of_ble_eq_true rfl) : Calls P f args w0 (Post w0 (fps L) φ) := Calls.of hf hb hn hr ha hL h
theorem co {P : Program} {f : FuncId} {fn : Func} {c : Code} {args : Array Value} {w0 : World} (n : Nat) (rs : List ResultVar) (hf : P.funcs[f]? = some fn) (h : TC ⟨P, n, w0, [], none⟩ c (finQ ⟨P, n, w0, [], none⟩ rs φ) (env0 args) [])
  (hb : fn.body = some c := by rfl) (hn : fn.ntmps = n := by rfl) (hr : fn.results.toList = rs := by rfl) (ha : args.size ≤ n := by exact Nat.le_of_ble_eq_true rfl) : Calls P f args w0 (Post w0 [] φ) := Calls.of (L := []) hf hb hn hr ha (Sat.nil _) h
theorem S.cn (he : zae C.P f) (hc : ∀ w, St C.w0 C.M L w → Calls C.P f (zbG env args #[]) w (Post w [] φ)) (hk : ∀ v L', φ v L' → TL C ops Q rest (env.put d v) (L' ++ L)) (hd : Nat.blt d C.n = true := by exact rfl) :
  TL C ops Q (⟨some d, .call { callee := .value (.func f), args := args, argTypes := tys }, ty, pos, after, none⟩ :: rest) env L := S.opS hd rfl (OpV.con (Pre := []) (R := L) he rfl (List.Perm.refl _) hc hk)
theorem S.c0 (he : zae C.P f) (hc : ∀ w, St C.w0 C.M L w → Calls C.P f (zbG env args #[]) w (Ret w v)) (hk : TL C ops Q rest (env.put d v) L) (hd : Nat.blt d C.n = true := by exact rfl) :
  TL C ops Q (⟨some d, .call { callee := .value (.func f), args := args, argTypes := tys }, ty, pos, after, none⟩ :: rest) env L := S.opS hd rfl (OpV.con0 he rfl hc hk)
theorem S.g0 (he : zae C.P f) (hc : ∀ w, St C.w0 C.M L w → Calls C.P f (zbG env args #[]) w (Ret w v)) (hk : TL C ops Q rest (env.put d v) L) (hw : zaF ops env ⟨some d, .call { callee := .value (.func f), args := args, argTypes := tys }, ty, pos, after, some gd⟩ = true := by exact rfl) (hd : Nat.blt d C.n = true := by exact rfl) :
  TL C ops Q (⟨some d, .call { callee := .value (.func f), args := args, argTypes := tys }, ty, pos, after, some gd⟩ :: rest) env L := S.opg hw hd rfl (OpV.con0 he rfl hc hk)
theorem D.c0 (k : Nat) (ho : ops[k]? = some ⟨some d, .call { callee := .value (.func f), args := args, argTypes := tys }, ty, pos, after, none⟩) (he : zae C.P f) (hc : ∀ w, St C.w0 C.M L w → Calls C.P f (zbG env args #[]) w (Ret w v)) (h : AWl C ops Q E F (k :: dn) (env.put d v) L)
  (hk : (zbs ops dn k && zaR ops ⟨some d, .call { callee := .value (.func f), args := args, argTypes := tys }, ty, pos, after, none⟩) = true := by kernel_rfl) (hsel : zaS ops = true := by kernel_rfl) (hcl : zem ops E dn k = true := by kernel_rfl) (hd : Nat.blt d C.n = true := by exact rfl)
  (hE : has E.1 k = false ∧ has E.2 k = false := by exact ⟨rfl, rfl⟩) : AWl C ops Q E F dn env L := D.cX ho hk hsel hcl hd rfl (CalU.con0 he rfl hc) h hE
theorem D.cg0 (k : Nat) (ho : ops[k]? = some ⟨some d, .call { callee := .value (.func f), args := args, argTypes := tys }, ty, pos, after, some gd⟩) (hw : zaF ops env ⟨some d, .call { callee := .value (.func f), args := args, argTypes := tys }, ty, pos, after, some gd⟩ = true) (he : zae C.P f) (hc : ∀ w, St C.w0 C.M L w → Calls C.P f (zbG env args #[]) w (Ret w v)) (h : AWl C ops Q E F (k :: dn) (env.put d v) L)
  (hk : (zbs ops dn k && zaR ops ⟨some d, .call { callee := .value (.func f), args := args, argTypes := tys }, ty, pos, after, some gd⟩) = true := by kernel_rfl) (hsel : zaS ops = true := by kernel_rfl) (hcl : zem ops E dn k = true := by kernel_rfl) (hd : Nat.blt d C.n = true := by exact rfl)
  (hE : has E.1 k = false ∧ has E.2 k = false := by exact ⟨rfl, rfl⟩) : AWl C ops Q E F dn env L := D.cgX ho hk hsel hcl hd rfl hw (CalU.con0 he rfl hc) h hE
theorem Sub.more (L' L : List Assn) : Sub L (L' ++ L) := ⟨L', List.perm_append_comm⟩
theorem D.nZ (k : Nat) (ho : ops[k]? = some ⟨some d, .call { callee := .value (.func f), args := args, argTypes := tys }, ty, pos, after, none⟩) (he : zae C.P f) (hc : ∀ w, St C.w0 C.M L w → Calls C.P f (zbG env args #[]) w (Post w [] φ)) (h : ∀ v L', φ v L' → AWl C ops Q E F (k :: dn) (env.put d v) (L' ++ L)) (s : Sub F L := by exact sb)
  (hk : zc4 ops dn k = true := by kernel_rfl) (hr : (zbB dn ⟨some d, .call { callee := .value (.func f), args := args, argTypes := tys }, ty, pos, after, none⟩ && zaR ops ⟨some d, .call { callee := .value (.func f), args := args, argTypes := tys }, ty, pos, after, none⟩) = true := by kernel_rfl) (hd : Nat.blt d C.n = true := by exact rfl)
  (hE1 : has E.1 k = false := by rfl) (hE : has E.2 k = true := by rfl) : AWl C ops Q E F dn env L := D.nS s ho hk hr hd rfl (OpV.con (Pre := []) (R := L) he rfl (List.Perm.refl _) hc fun v L' hv => ⟨Sub.more L' L, h v L' hv⟩) hE1 hE
theorem D.oS (k : Nat) (ho : ops[k]? = some ⟨some d, op, ty, pos, after, none⟩) (h : OpV C ⟨some d, op, ty, pos, after, none⟩ env L fun v L' => Sub F L' ∧ AWl C ops Q E F (k :: dn) (env.put d v) L') (s : Sub F L := by exact sb) (hk : zc4 ops dn k = true := by kernel_rfl) (hr : (zbB dn ⟨some d, op, ty, pos, after, none⟩ && zaR ops ⟨some d, op, ty, pos, after, none⟩) = true := by kernel_rfl) (hd : Nat.blt d C.n = true := by exact rfl) (hnd : zap ⟨some d, op, ty, pos, after, none⟩ = false := by exact rfl)
  (hE : has E.1 k = true := by rfl) : AWl C ops Q E F dn env L := D.opS s ho hk hr hd hnd h hE
theorem D.oN (k : Nat) (ho : ops[k]? = some ⟨none, op, ty, pos, after, none⟩) (h : OpV C ⟨none, op, ty, pos, after, none⟩ env L fun v L' => Sub F L' ∧ AWl C ops Q E F (k :: dn) env L') (s : Sub F L := by exact sb) (hk : zc4 ops dn k = true := by kernel_rfl) (hr : (zbB dn ⟨none, op, ty, pos, after, none⟩ && zaR ops ⟨none, op, ty, pos, after, none⟩) = true := by kernel_rfl) (hnd : zap ⟨none, op, ty, pos, after, none⟩ = false := by exact rfl)
  (hE : has E.1 k = true := by rfl) : AWl C ops Q E F dn env L := D.opN s ho hk hr hnd h hE
theorem D.nN (k : Nat) (ho : ops[k]? = some ⟨some d, op, ty, pos, after, none⟩) (h : OpV C ⟨some d, op, ty, pos, after, none⟩ env L fun v L' => Sub L L' ∧ AWl C ops Q E F (k :: dn) (env.put d v) L') (s : Sub F L := by exact sb) (hk : zc4 ops dn k = true := by kernel_rfl) (hr : (zbB dn ⟨some d, op, ty, pos, after, none⟩ && zaR ops ⟨some d, op, ty, pos, after, none⟩) = true := by kernel_rfl) (hd : Nat.blt d C.n = true := by exact rfl) (hnd : zap ⟨some d, op, ty, pos, after, none⟩ = false := by exact rfl)
  (hE1 : has E.1 k = false := by rfl) (hE : has E.2 k = true := by rfl) : AWl C ops Q E F dn env L := D.nS s ho hk hr hd hnd h hE1 hE
theorem D.fi (h : Q .normal env L) (s : Sub F L := by exact sb) (hk : allK ops dn = true := by kernel_rfl) : AWl C ops Q E F dn env L := D.done s hk h
theorem ag {e : Env} {vars : List (Nat × Value)} (h : ∀ x ∈ vars, e x.1 = x.2 := by repeat (first | refine List.forall_mem_cons.2 ⟨rfl, ?_⟩ | (intro x hx; cases hx; done))) : ∀ x ∈ vars, e x.1 = x.2 := h
theorem sbd {A B : List Assn} (h : Sub A B := by (try dsimp only); exact sb) : Sub A B := h
theorem sk {X : Assn} {A B : List Assn} (h : Sub A B) : Sub (X :: A) (X :: B) := Sub.keep X h
theorem sd {X : Assn} {A B : List Assn} (h : Sub A B) : Sub A (X :: B) := Sub.drop X h
theorem sn {B : List Assn} : Sub [] B := Sub.nil B
theorem sn0 : Sub [] [] := Sub.nil []
theorem sr {A : List Assn} : Sub A A := Sub.refl A
theorem pc {a : Assn} {l l2 : List Assn} (h : l.Perm l2) : (a :: l).Perm (a :: l2) := List.Perm.cons a h
theorem pr {l : List Assn} : l.Perm l := List.Perm.refl l
theorem pm1 {x a : Assn} {l₂ : List Assn} : ([x] ++ a :: l₂).Perm (a :: ([x] ++ l₂)) := List.perm_middle
theorem pm2 {x y a : Assn} {l₂ : List Assn} : ([x, y] ++ a :: l₂).Perm (a :: ([x, y] ++ l₂)) := List.perm_middle
theorem pm3 {x y z a : Assn} {l₂ : List Assn} : ([x, y, z] ++ a :: l₂).Perm (a :: ([x, y, z] ++ l₂)) := List.perm_middle
theorem pm4 {x y z u a : Assn} {l₂ : List Assn} : ([x, y, z, u] ++ a :: l₂).Perm (a :: ([x, y, z, u] ++ l₂)) := List.perm_middle
theorem pm5 {x y z u v a : Assn} {l₂ : List Assn} : ([x, y, z, u, v] ++ a :: l₂).Perm (a :: ([x, y, z, u, v] ++ l₂)) := List.perm_middle
theorem pm6 {x y z u v w a : Assn} {l₂ : List Assn} : ([x, y, z, u, v, w] ++ a :: l₂).Perm (a :: ([x, y, z, u, v, w] ++ l₂)) := List.perm_middle
end brief
end Go.E
