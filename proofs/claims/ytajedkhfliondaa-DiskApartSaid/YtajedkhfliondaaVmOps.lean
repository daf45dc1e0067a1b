/-
  The operations' lemmas of the logic of partial frames and heaps.
  Conditions: none; it is a library of lemmas over any program.
-/
import Derived.Test.YtajedkhfliondaaVm
import Derived.Laws.CopyRow
import Derived.Laws.AppendOwn
import Derived.Laws.Cells
namespace Go.Vm
open Go Go.RowKit

/-! ### Cells -/
abbrev blk (cs : List Value) (ty : TypeId) : Obj := .cells cs.toArray ty (0, 0)

def dropN : Nat → List Value → Option (List Value)
  | 0, l => some l
  | _ + 1, [] => none
  | n + 1, _ :: l => dropN n l
def takeN : Nat → List Value → Option (List Value)
  | 0, _ => some []
  | _ + 1, [] => none
  | n + 1, c :: l => match takeN n l with
    | some r => some (c :: r)
    | none => none
def cut (off n : Nat) (cs : List Value) : Option (List Value) :=
  match dropN off cs with
  | some l => takeN n l
  | none => none
def over : List Value → List Value → Option (List Value)
  | [], cs => some cs
  | _ :: _, [] => none
  | v :: r, _ :: cs => match over r cs with
    | some x => some (v :: x)
    | none => none
def splice : Nat → List Value → List Value → Option (List Value)
  | 0, new, cs => over new cs
  | _ + 1, _, [] => none
  | n + 1, new, c :: cs => match splice n new cs with
    | some x => some (c :: x)
    | none => none

theorem dropN_eq : ∀ {n : Nat} {l r : List Value}, dropN n l = some r → r = l.drop n ∧ n ≤ l.length
  | 0, l, r, h => by simp [dropN] at h; simp [h]
  | n + 1, [], r, h => by simp [dropN] at h
  | n + 1, c :: l, r, h => by
    have := dropN_eq (n := n) (l := l) (by simpa [dropN] using h)
    simp; exact this
theorem takeN_eq : ∀ {n : Nat} {l r : List Value}, takeN n l = some r → r = l.take n ∧ r.length = n
  | 0, l, r, h => by simp [takeN] at h; simp [← h]
  | n + 1, [], r, h => by simp [takeN] at h
  | n + 1, c :: l, r, h => by
    simp only [takeN] at h
    cases hq : takeN n l with
    | none => simp [hq] at h
    | some q =>
      have := takeN_eq hq
      simp [hq] at h
      subst h
      simp [this.1]
      have h2 := this.2
      rw [this.1] at h2
      simpa using h2
theorem cut_eq {off n : Nat} {cs l : List Value} (h : cut off n cs = some l) : l.length = n ∧ ∀ j u, l[j]? = some u → cs[off + j]? = some u := by
  unfold cut at h
  split at h
  · rename_i r hr
    have h1 := dropN_eq hr
    have h2 := takeN_eq h
    refine ⟨h2.2, fun j u hj => ?_⟩
    have hlt : j < n := by
      have := (List.getElem?_eq_some_iff.1 hj).1
      omega
    rw [h2.1, h1.1] at hj
    simpa [List.getElem?_take, hlt, List.getElem?_drop] using hj
  · cases h
theorem over_eq : ∀ {new cs r : List Value}, over new cs = some r → r = new ++ cs.drop new.length ∧ new.length ≤ cs.length
  | [], cs, r, h => by simp [over] at h; simp [h]
  | v :: new, [], r, h => by simp [over] at h
  | v :: new, c :: cs, r, h => by
    simp only [over] at h
    cases hq : over new cs with
    | none => simp [hq] at h
    | some q =>
      have := over_eq hq
      simp [hq] at h
      subst h
      simp [this.1]
      exact this.2
theorem splice_eq : ∀ {off : Nat} {new cs r : List Value}, splice off new cs = some r → r = cs.take off ++ new ++ cs.drop (off + new.length) ∧ off + new.length ≤ cs.length
  | 0, new, cs, r, h => by
    have := over_eq (by simpa [splice] using h)
    simp [this.1]; exact this.2
  | n + 1, new, [], r, h => by simp [splice] at h
  | n + 1, new, c :: cs, r, h => by
    simp only [splice] at h
    cases hq : splice n new cs with
    | none => simp [hq] at h
    | some q =>
      have := splice_eq hq
      simp [hq] at h
      subst h
      have e : n + 1 + new.length = (n + new.length) + 1 := by omega
      rw [e]
      simp [this.1]
      have := this.2
      omega

/-! ### Types -/
def aggOf (P : Program) (t : TypeId) : Option Bool := (P.underlying t).map fun | .struct _ => true | .array _ _ => true | _ => false
def sizeIn (P : Program) (t : TypeId) : Option Nat := (P.info? t).map (·.size)
structure TyA (P : Program) (t : TypeId) (s : Nat) : Prop where
  agg : aggOf P t = some true
  size : sizeIn P t = some s
structure TyC (P : Program) (t : TypeId) : Prop where
  agg : aggOf P t = some false
  size : sizeIn P t = some 1
/-- The zero value's cells. -/
structure TyZ (P : Program) (t : TypeId) (v : Value) (zs : List Value) : Prop where
  zero : ∀ w, (zeroValue t).run P w = .ok v w
  cells : v.cells = zs.toArray
/-- A field's place. -/
def fieldOf (P : Program) (s : TypeId) (f : Nat) : Option (Nat × TypeId) :=
  (P.underlying s).bind fun | .struct fs => (fs[f]?).map fun x => (x.offset, x.type) | _ => none
/-- Closed facts on operations, each behind a name of its own. -/
def ZeroTo (P : Program) (t : TypeId) (v : Value) : Prop := ∀ w, (Instr.build t #[]).run P w = .ok v w
def BuildTo (P : Program) (t : TypeId) (vs : List (Nat × Value)) (v : Value) : Prop := ∀ w, (Instr.build t vs.toArray).run P w = .ok v w
def FieldTo (P : Program) (t : TypeId) (u : Value) (f : Nat) (v : Value) : Prop := ∀ w, (Instr.field t u f).run P w = .ok v w
def IndexTo (P : Program) (t : TypeId) (u z v : Value) : Prop := ∀ w, (Instr.index t u z).run P w = .ok v w
def BinTo (P : Program) (op : BinOp) (t : TypeId) (x y : Operand) (u z v : Value) : Prop := (∀ w, (eqGuard op t x y u z).run P w = .ok () w) ∧ ∀ w, (binOp op t u z).run P w = .ok v w
def SliceTo (P : Program) (t len : Nat) (vs : List (Nat × Value)) (cs : List Value) (el : TypeId) : Prop := ∀ w, (Instr.buildSlice t len vs.toArray).run P w = .ok (.slice (some ⟨w.heap.size, 0, none⟩) len len) (w.alloc (blk cs el))
def ExternTo (P : Program) (f : FuncId) (vs : List Value) (v : Value) : Prop := ∀ w, (callFunc f vs.toArray).run P w = .ok (.value v) w
structure TyF (P : Program) (s : TypeId) (f off m : Nat) : Prop where
  field : ∃ ft, fieldOf P s f = some (off, ft) ∧ sizeIn P ft = some m
  pos : m ≠ 0

section
variable {P : Program} {n : Nat} {K : List Nat} {G : Hp} {w0 : World} {w : World}

theorem run_isAgg {t : TypeId} {b : Bool} (h : aggOf P t = some b) : (isAgg t).run P w = .ok b w := by
  unfold aggOf at h
  cases hu : P.underlying t with
  | none => simp [hu] at h
  | some d => cases d <;> simp [hu] at h <;> subst h <;> simp [isAgg, run_underlying hu]

theorem run_sizeOf {t : TypeId} {s : Nat} (h : sizeIn P t = some s) : (sizeOf t).run P w = .ok s w := by
  unfold sizeIn at h
  cases hi : P.info? t with
  | none => simp [hi] at h
  | some i => simp [hi] at h; subst h; simp [sizeOf, typeInfo, hi]

theorem add_off (b o j : Nat) : (⟨b, o, none⟩ : Addr).add j = ⟨b, o + j, none⟩ := by unfold Addr.add; split <;> simp_all

theorem cell_blk {b o : Nat} {cs : List Value} {ty : TypeId} {fr : Nat × Nat} (h : w.heap[b]? = some (.cells cs.toArray ty fr)) : w.cell? ⟨b, o, none⟩ = cs[o]? := by
  simp [World.cell?, h]

theorem run_loadA {t : TypeId} {s b o : Nat} {cs l : List Value} {ty : TypeId} {fr : Nat × Nat} (ht : TyA P t s) (h : w.heap[b]? = some (.cells cs.toArray ty fr)) (hl : cut o s cs = some l) :
    (loadVar t ⟨b, o, none⟩).run P w = .ok (.agg l.toArray) w := by
  obtain ⟨h1, h2⟩ := cut_eq hl
  have := run_loadCells_list (P := P) w ⟨b, o, none⟩ l (fun j v hj => by rw [add_off, cell_blk h]; exact h2 j v hj)
  rw [h1] at this
  simp only [loadVar, Sem.run_bind, run_isAgg ht.agg, Result.andThen_ok, if_true, run_sizeOf ht.size, this]
  rfl

theorem run_loadC {t : TypeId} {b o : Nat} {cs : List Value} {v : Value} {ty : TypeId} {fr : Nat × Nat} (ht : TyC P t) (h : w.heap[b]? = some (.cells cs.toArray ty fr)) (hl : cs[o]? = some v) :
    (loadVar t ⟨b, o, none⟩).run P w = .ok v w := by
  simp only [loadVar, Sem.run_bind, run_isAgg ht.agg, Result.andThen_ok, Bool.false_eq_true, if_false, load, Sem.run, cell_blk h, hl]

theorem setRow_wrote {b : Nat} {cs new : Array Value} {ty : TypeId} {fr : Nat × Nat} (h : w.heap[b]? = some (.cells cs ty fr)) : Wrote w (w.setRow b new) b (.cells new ty fr) :=
  ⟨rfl, rfl, rfl, by simp [World.setRow], setRow_heap w b cs new ty fr h, fun i hi => setRow_other w b i new (by simpa using hi)⟩

theorem run_storeA {t : TypeId} {s b o : Nat} {cs l cs' : List Value} {ty : TypeId} (hs : sizeIn P t = some s) (hlen : l.length = s) (h : w.heap[b]? = some (blk cs ty)) (hl : splice o l cs = some cs') (h1 : l.all (·.oneCell') = true) {v : Value} (hv : v.cells = l.toArray) :
    (storeVar t ⟨b, o, none⟩ v).run P w = .ok () (w.setRow b cs'.toArray) := by
  obtain ⟨h2, h3⟩ := splice_eq hl
  have := run_storeCells_at P b o ty l 0 cs.toArray w h (by simpa using h3) (fun v hv => by simpa using (List.all_eq_true.1 h1) v hv)
  simp only [Nat.add_zero] at this
  rw [h2]
  simp only [storeVar, Sem.run_bind, run_sizeOf hs, Result.andThen_ok, hv, List.size_toArray, hlen, ne_eq, not_true_eq_false, if_false, this]

/-! ### What only computes -/
theorem det_run {d : Option Tmp} {op : Op} {ty : TypeId} {pos : String} {after : Array Edge} {g : Option (Nat × Bool)} {F : Fr} {H : Hp} {v : Value}
    (h : ∀ a w, Slots F a → Blocks H w → Old K G w0 w → (execOp a.eval ⟨d, op, ty, pos, after, g⟩).run P w = .ok (.value v) w) : Det P K G w0 ⟨d, op, ty, pos, after, g⟩ F H v :=
  fun a w hs hb ho next Qx hn => by
    unfold Oper.wp
    rw [h a w hs hb ho]
    exact hn w (Below.refl _ _)

variable {d : Option Tmp} {ty : TypeId} {pos : String} {after : Array Edge} {g : Option (Nat × Bool)} {F : Fr} {H : Hp} {v : Value}

theorem det_move {x : Operand} (hx : ev F x = some v) : Det P K G w0 ⟨d, .move x, ty, pos, after, g⟩ F H v :=
  det_run fun a w hs _ _ => by simp [execOp, hs.ev hx]
theorem det_assign {x : Operand} (hx : ev F x = some v) : Det P K G w0 ⟨d, .assign x, ty, pos, after, g⟩ F H v :=
  det_run fun a w hs _ _ => by simp [execOp, hs.ev hx]
theorem det_pick {c x y : Operand} {t : Bool} (hc : ev F c = some (.bool t)) (hv : ev F (match t with | true => x | false => y) = some v) : Det P K G w0 ⟨d, .pick c x y, ty, pos, after, g⟩ F H v :=
  det_run fun a w hs _ _ => by cases t <;> simp [execOp, hs.ev hc, hs.ev hv, asBool]
theorem det_extract {x : Operand} {i : Nat} {l : List Value} (hx : ev F x = some (.tuple l.toArray)) (hv : l[i]? = some v) : Det P K G w0 ⟨d, .extract x i, ty, pos, after, g⟩ F H v :=
  det_run fun a w hs _ _ => by simp [execOp, hs.ev hx, Instr.extract, hv]

theorem det_bin {op : BinOp} {xt yt : TypeId} {x y : Operand} {u z : Value} (hx : ev F x = some u) (hy : ev F y = some z)
    (h : ∀ w, (eqGuard op xt x y u z).run P w = .ok () w) (hb : ∀ w, (binOp op xt u z).run P w = .ok v w) : Det P K G w0 ⟨d, .binOp op xt x y yt, ty, pos, after, g⟩ F H v :=
  det_run fun a w hs _ _ => by simp [execOp, hs.ev hx, hs.ev hy, h, hb, Result.andThen]

theorem det_binTo {op : BinOp} {xt yt : TypeId} {x y : Operand} {u z : Value} (hx : ev F x = some u) (hy : ev F y = some z) (h : BinTo P op xt x y u z v) : Det P K G w0 ⟨d, .binOp op xt x y yt, ty, pos, after, g⟩ F H v :=
  det_bin hx hy h.1 h.2
theorem guard_int {op : BinOp} {xt : TypeId} {x y : Operand} {k k' : IntKind} {a b : Int} (w : World) : (eqGuard op xt x y (.int k a) (.int k' b)).run P w = .ok () w := by
  unfold eqGuard; cases op <;> simp
theorem guard_bool {op : BinOp} {xt : TypeId} {x y : Operand} {a b : Bool} (w : World) : (eqGuard op xt x y (.bool a) (.bool b)).run P w = .ok () w := by
  unfold eqGuard; cases op <;> simp
theorem guard_string {op : BinOp} {xt : TypeId} {x y : Operand} {a b : ByteArray} (w : World) : (eqGuard op xt x y (.string a) (.string b)).run P w = .ok () w := by
  unfold eqGuard; cases op <;> simp

variable {x y : Operand} {xt yt : TypeId} {k : IntKind} {a b : Int}
theorem det_add (hx : ev F x = some (.int k a)) (hy : ev F y = some (.int k b)) : Det P K G w0 ⟨d, .binOp .add xt x y yt, ty, pos, after, g⟩ F H (.int k (k.wrap (a + b))) :=
  det_bin hx hy guard_int fun _ => by simp [binOp, Op.intArith]
theorem det_sub (hx : ev F x = some (.int k a)) (hy : ev F y = some (.int k b)) : Det P K G w0 ⟨d, .binOp .sub xt x y yt, ty, pos, after, g⟩ F H (.int k (k.wrap (a - b))) :=
  det_bin hx hy guard_int fun _ => by simp [binOp, Op.intArith]
theorem det_mul (hx : ev F x = some (.int k a)) (hy : ev F y = some (.int k b)) : Det P K G w0 ⟨d, .binOp .mul xt x y yt, ty, pos, after, g⟩ F H (.int k (k.wrap (a * b))) :=
  det_bin hx hy guard_int fun _ => by simp [binOp, Op.intArith]
theorem det_eql (hx : ev F x = some (.int k a)) (hy : ev F y = some (.int k b)) : Det P K G w0 ⟨d, .binOp .eql xt x y yt, ty, pos, after, g⟩ F H (.bool (a == b)) :=
  det_bin hx hy guard_int fun _ => by simp [binOp, Op.intCmp]
theorem det_neq (hx : ev F x = some (.int k a)) (hy : ev F y = some (.int k b)) : Det P K G w0 ⟨d, .binOp .neq xt x y yt, ty, pos, after, g⟩ F H (.bool (a != b)) :=
  det_bin hx hy guard_int fun _ => by simp [binOp, Op.intCmp]
theorem det_lss (hx : ev F x = some (.int k a)) (hy : ev F y = some (.int k b)) : Det P K G w0 ⟨d, .binOp .lss xt x y yt, ty, pos, after, g⟩ F H (.bool (decide (a < b))) :=
  det_bin hx hy guard_int fun _ => by simp [binOp, Op.intCmp]
theorem det_leq (hx : ev F x = some (.int k a)) (hy : ev F y = some (.int k b)) : Det P K G w0 ⟨d, .binOp .leq xt x y yt, ty, pos, after, g⟩ F H (.bool (decide (a ≤ b))) :=
  det_bin hx hy guard_int fun _ => by simp [binOp, Op.intCmp]
theorem det_gtr (hx : ev F x = some (.int k a)) (hy : ev F y = some (.int k b)) : Det P K G w0 ⟨d, .binOp .gtr xt x y yt, ty, pos, after, g⟩ F H (.bool (decide (b < a))) :=
  det_bin hx hy guard_int fun _ => by simp [binOp, Op.intCmp]
theorem det_geq (hx : ev F x = some (.int k a)) (hy : ev F y = some (.int k b)) : Det P K G w0 ⟨d, .binOp .geq xt x y yt, ty, pos, after, g⟩ F H (.bool (decide (b ≤ a))) :=
  det_bin hx hy guard_int fun _ => by simp [binOp, Op.intCmp]
theorem det_quo (hx : ev F x = some (.int k a)) (hy : ev F y = some (.int k b)) (h0 : b ≠ 0) : Det P K G w0 ⟨d, .binOp .quo xt x y yt, ty, pos, after, g⟩ F H (.int k (k.wrap (a.tdiv b))) :=
  det_bin hx hy guard_int fun _ => by simp [binOp, Op.intDiv, h0]
theorem det_rem (hx : ev F x = some (.int k a)) (hy : ev F y = some (.int k b)) (h0 : b ≠ 0) : Det P K G w0 ⟨d, .binOp .rem xt x y yt, ty, pos, after, g⟩ F H (.int k (a.tmod b)) :=
  det_bin hx hy guard_int fun _ => by simp [binOp, Op.intDiv, h0]
theorem det_shr {yk : IntKind} (hx : ev F x = some (.int k a)) (hy : ev F y = some (.int yk b)) (h0 : 0 ≤ b) : Det P K G w0 ⟨d, .binOp .shr xt x y yt, ty, pos, after, g⟩ F H (.int k (a.fdiv (2 ^ (min b.toNat k.bits)))) :=
  det_bin hx hy guard_int fun _ => by simp [binOp, Op.shift, Int.not_lt.2 h0]
theorem det_shl {yk : IntKind} (hx : ev F x = some (.int k a)) (hy : ev F y = some (.int yk b)) (h0 : 0 ≤ b) : Det P K G w0 ⟨d, .binOp .shl xt x y yt, ty, pos, after, g⟩ F H (.int k (k.wrap (a * 2 ^ (min b.toNat k.bits)))) :=
  det_bin hx hy guard_int fun _ => by simp [binOp, Op.shift, Int.not_lt.2 h0]
/-- Bits by what the model computes. -/
def bitsOf (op : BinOp) (k : IntKind) (a b : Int) : Int :=
  match op with
  | .and => k.wrap (BitVec.ofInt k.bits a &&& BitVec.ofInt k.bits b).toNat
  | .or => k.wrap (BitVec.ofInt k.bits a ||| BitVec.ofInt k.bits b).toNat
  | .xor => k.wrap (BitVec.ofInt k.bits a ^^^ BitVec.ofInt k.bits b).toNat
  | _ => k.wrap (BitVec.ofInt k.bits a &&& ~~~BitVec.ofInt k.bits b).toNat
theorem det_and (hx : ev F x = some (.int k a)) (hy : ev F y = some (.int k b)) : Det P K G w0 ⟨d, .binOp .and xt x y yt, ty, pos, after, g⟩ F H (.int k (bitsOf .and k a b)) :=
  det_bin hx hy guard_int fun _ => by simp [binOp, Op.intBits, bitsOf]
theorem det_or (hx : ev F x = some (.int k a)) (hy : ev F y = some (.int k b)) : Det P K G w0 ⟨d, .binOp .or xt x y yt, ty, pos, after, g⟩ F H (.int k (bitsOf .or k a b)) :=
  det_bin hx hy guard_int fun _ => by simp [binOp, Op.intBits, bitsOf]
theorem det_xor (hx : ev F x = some (.int k a)) (hy : ev F y = some (.int k b)) : Det P K G w0 ⟨d, .binOp .xor xt x y yt, ty, pos, after, g⟩ F H (.int k (bitsOf .xor k a b)) :=
  det_bin hx hy guard_int fun _ => by simp [binOp, Op.intBits, bitsOf]
theorem det_andNot (hx : ev F x = some (.int k a)) (hy : ev F y = some (.int k b)) : Det P K G w0 ⟨d, .binOp .andNot xt x y yt, ty, pos, after, g⟩ F H (.int k (bitsOf .andNot k a b)) :=
  det_bin hx hy guard_int fun _ => by simp [binOp, Op.intBits, bitsOf]
theorem det_not {t : Bool} (hx : ev F x = some (.bool t)) : Det P K G w0 ⟨d, .unOp .not xt x, ty, pos, after, g⟩ F H (.bool !t) :=
  det_run fun a w hs _ _ => by simp [execOp, hs.ev hx, Op.unary]
theorem det_negI (hx : ev F x = some (.int k a)) : Det P K G w0 ⟨d, .unOp .neg xt x, ty, pos, after, g⟩ F H (.int k (k.wrap (0 - a))) :=
  det_run fun a w hs _ _ => by simp [execOp, hs.ev hx, Op.unary, Op.intArith]
theorem det_conv {src dst : TypeId} {k' : IntKind} {ds : TypeDesc} (hs0 : P.underlying src = some ds) (hd : P.underlying dst = some (.int k')) (hx : ev F x = some (.int k a)) :
    Det P K G w0 ⟨d, .convert src dst x, ty, pos, after, g⟩ F H (.int k' (k'.wrap a)) :=
  det_run fun a w hs _ _ => by simp [execOp, hs.ev hx, convert, run_underlying hs0, run_underlying hd, Conv.intToInt]
/-- A struct's or an array's literal without parts. -/
theorem det_zero {t : TypeId} (hz : ZeroTo P t v) : Det P K G w0 ⟨d, .build t #[], ty, pos, after, g⟩ F H v :=
  det_run fun a w hs _ _ => by simp [execOp, hz w]
def evps (F : Fr) : List (Nat × Operand) → Option (List (Nat × Value))
  | [] => some []
  | (i, x) :: r => match ev F x with
    | some v => match evps F r with
      | some l => some ((i, v) :: l)
      | none => none
    | none => none
theorem evps_map {F : Fr} {a : Act} (hs : Slots F a) : ∀ {l : List (Nat × Operand)} {vs : List (Nat × Value)}, evps F l = some vs → l.map (fun p => (p.1, a.eval p.2)) = vs
  | [], vs, h => by simp [evps] at h; simp [h]
  | (i, x) :: r, vs, h => by
    simp only [evps] at h
    cases hx : ev F x with
    | none => simp [hx] at h
    | some v =>
      cases hr : evps F r with
      | none => simp [hx, hr] at h
      | some l =>
        simp [hx, hr] at h
        subst h
        simp [hs.ev hx, evps_map hs hr]
theorem det_build {t : TypeId} {ps : List (Nat × Operand)} {vs : List (Nat × Value)} (hx : evps F ps = some vs) (hb : BuildTo P t vs v) :
    Det P K G w0 ⟨d, .build t ps.toArray, ty, pos, after, g⟩ F H v :=
  det_run fun a w hs _ _ => by
    have := evps_map hs hx
    simp [execOp, this, hb w]
theorem det_field {t : TypeId} {f : Nat} {u : Value} (hx : ev F x = some u) (hf : FieldTo P t u f v) : Det P K G w0 ⟨d, .field t x f, ty, pos, after, g⟩ F H v :=
  det_run fun a w hs _ _ => by simp [execOp, hs.ev hx, hf w]
theorem det_index {t : TypeId} {u z : Value} (hx : ev F x = some u) (hy : ev F y = some z) (hf : IndexTo P t u z v) : Det P K G w0 ⟨d, .index t x y, ty, pos, after, g⟩ F H v :=
  det_run fun a w hs _ _ => by simp [execOp, hs.ev hx, hs.ev hy, hf w]
theorem det_func {f : FuncId} : Det P K G w0 ⟨d, .makeFunc (.func f) #[] #[], ty, pos, after, g⟩ F H (.func (.func f) #[] #[]) :=
  det_run fun a w hs _ _ => by simp [execOp, Instr.makeFunc]
theorem det_func1 {f : FuncId} (hx : ev F x = some v) : Det P K G w0 ⟨d, .makeFunc (.func f) #[] #[x], ty, pos, after, g⟩ F H (.func (.func f) #[] #[v]) :=
  det_run fun a w hs _ _ => by simp [execOp, Instr.makeFunc, hs.ev hx]

/-! ### Addresses -/
theorem det_fieldAddr {s : TypeId} {f off m b o : Nat} (hf : TyF P s f off m) (hx : ev F x = some (.pointer (some ⟨b, o, none⟩))) :
    Det P K G w0 ⟨d, .fieldAddr s x f, ty, pos, after, g⟩ F H (.pointer (some ⟨b, o + off, none⟩)) :=
  det_run fun a w hs _ _ => by
    obtain ⟨⟨ft, h1, h2⟩, hp⟩ := hf
    unfold fieldOf at h1
    cases hu : P.underlying s with
    | none => simp [hu] at h1
    | some q =>
      cases q <;> simp [hu] at h1
      rename_i fs
      obtain ⟨fd, hfd, rfl, rfl⟩ := h1
      simp [execOp, hs.ev hx, Instr.fieldAt, run_underlying hu, hfd, Instr.sureAddr, fieldPlace, run_sizeOf h2, hp, add_off]

theorem det_indexAddr_arr {t : TypeId} {len el s b o : Nat} {i : Int} {ki : IntKind} (hu : P.underlying t = some (.array len el)) (hs0 : sizeIn P el = some s)
    (hx : ev F x = some (.pointer (some ⟨b, o, none⟩))) (hy : ev F y = some (.int ki i)) (h0 : 0 ≤ i ∧ i < len) :
    Det P K G w0 ⟨d, .indexAddr t x y, ty, pos, after, g⟩ F H (.pointer (some ⟨b, o + i.toNat * s, none⟩)) :=
  det_run fun a w hs _ _ => by
    simp [execOp, hs.ev hx, hs.ev hy, Instr.indexAt, asIntOf, run_underlying hu, Instr.sureAddr, h0, run_sizeOf hs0, add_off]

theorem det_indexAddr_sl {t : TypeId} {el s b o : Nat} {len cap : Nat} {i : Int} {ki : IntKind} (hu : P.underlying t = some (.slice el)) (hs0 : sizeIn P el = some s)
    (hx : ev F x = some (.slice (some ⟨b, o, none⟩) len cap)) (hy : ev F y = some (.int ki i)) (h0 : 0 ≤ i ∧ i < len) :
    Det P K G w0 ⟨d, .indexAddr t x y, ty, pos, after, g⟩ F H (.pointer (some ⟨b, o + i.toNat * s, none⟩)) :=
  det_run fun a w hs _ _ => by
    simp [execOp, hs.ev hx, hs.ev hy, Instr.indexAt, asIntOf, run_underlying hu, h0, run_sizeOf hs0, add_off]

/-! ### Loads -/
theorem det_loadA {t : TypeId} {s b o : Nat} {cs l : List Value} {e : TypeId} {fr : Nat × Nat} (ht : TyA P t s) (hx : ev F x = some (.pointer (some ⟨b, o, none⟩))) (hm : (b, Obj.cells cs.toArray e fr) ∈ H) (hl : cut o s cs = some l) :
    Det P K G w0 ⟨d, .load t x, ty, pos, after, g⟩ F H (.agg l.toArray) :=
  det_run fun a w hs hb _ => by simp [execOp, hs.ev hx, Instr.loadAt, Instr.sureAddr, run_loadA ht (hb _ hm) hl]
theorem det_loadC {t : TypeId} {b o : Nat} {cs : List Value} {e : TypeId} {fr : Nat × Nat} (ht : TyC P t) (hx : ev F x = some (.pointer (some ⟨b, o, none⟩))) (hm : (b, Obj.cells cs.toArray e fr) ∈ H) (hl : cs[o]? = some v) :
    Det P K G w0 ⟨d, .load t x, ty, pos, after, g⟩ F H v :=
  det_run fun a w hs hb _ => by simp [execOp, hs.ev hx, Instr.loadAt, Instr.sureAddr, run_loadC ht (hb _ hm) hl]
/-- Out of a block that is read only. -/
theorem det_loadA_ro {t : TypeId} {s b o : Nat} {cs l : List Value} {e : TypeId} {fr : Nat × Nat} (ht : TyA P t s) (hx : ev F x = some (.pointer (some ⟨b, o, none⟩))) (hm : (b, Obj.cells cs.toArray e fr) ∈ G) (hl : cut o s cs = some l) :
    Det P K G w0 ⟨d, .load t x, ty, pos, after, g⟩ F H (.agg l.toArray) :=
  det_run fun a w hs hb ho => by simp [execOp, hs.ev hx, Instr.loadAt, Instr.sureAddr, run_loadA ht (ho.look hm) hl]
theorem det_loadC_ro {t : TypeId} {b o : Nat} {cs : List Value} {e : TypeId} {fr : Nat × Nat} (ht : TyC P t) (hx : ev F x = some (.pointer (some ⟨b, o, none⟩))) (hm : (b, Obj.cells cs.toArray e fr) ∈ G) (hl : cs[o]? = some v) :
    Det P K G w0 ⟨d, .load t x, ty, pos, after, g⟩ F H v :=
  det_run fun a w hs hb ho => by simp [execOp, hs.ev hx, Instr.loadAt, Instr.sureAddr, run_loadC ht (ho.look hm) hl]

/-! ### len -/
theorem det_len {t el : TypeId} {ad : Option Addr} {len cap : Nat} (hu : P.underlying t = some (.slice el)) (hx : ev F x = some (.slice ad len cap)) :
    Det P K G w0 ⟨d, .call { callee := .builtin .len, args := #[x], argTypes := #[t] }, ty, pos, after, g⟩ F H (.int .i64 len) :=
  det_run fun a w hs _ _ => by simp [execOp, hs.ev hx, resolve, invoke, builtin, Builtin.len_, run_underlying hu, goInt]
theorem det_len_str {t : TypeId} {s : ByteArray} (hu : P.underlying t = some .string) (hx : ev F x = some (.string s)) :
    Det P K G w0 ⟨d, .call { callee := .builtin .len, args := #[x], argTypes := #[t] }, ty, pos, after, g⟩ F H (.int .i64 s.size) :=
  det_run fun a w hs _ _ => by simp [execOp, hs.ev hx, resolve, invoke, builtin, Builtin.len_, run_underlying hu, goInt]

/-! ### Calls -/
def Enters (P : Program) (f : FuncId) : Prop := ∀ args w, (callFunc f args).run P w = .ok (.enter f args) w
/-- The call hands back v, and makes new blocks at most. -/
def Pure (P : Program) (f : FuncId) (args : Array Value) (w : World) (v : Value) : Prop :=
  Calls P f args w fun e w' => e = .returned v ∧ Below w.heap.size w w'

def evs (F : Fr) : List Operand → Option (List Value)
  | [] => some []
  | x :: r => match ev F x with
    | some v => match evs F r with
      | some l => some (v :: l)
      | none => none
    | none => none
theorem evs_map {F : Fr} {a : Act} (hs : Slots F a) : ∀ {l : List Operand} {vs : List Value}, evs F l = some vs → l.map a.eval = vs
  | [], vs, h => by simp [evs] at h; simp [h]
  | x :: r, vs, h => by
    simp only [evs] at h
    cases hx : ev F x with
    | none => simp [hx] at h
    | some v =>
      cases hr : evs F r with
      | none => simp [hx, hr] at h
      | some l =>
        simp [hx, hr] at h
        subst h
        simp [hs.ev hx, evs_map hs hr]

theorem det_call {f : FuncId} {xs : List Operand} {ats : Array TypeId} {vs : List Value} (he : Enters P f) (hx : evs F xs = some vs)
    (h : ∀ w, Blocks H w → Old K G w0 w → Pure P f vs.toArray w v) :
    Det P K G w0 ⟨d, .call { callee := .value (.func f), args := xs.toArray, argTypes := ats }, ty, pos, after, g⟩ F H v :=
  fun a w hs hb ho next Qx hn => by
    have hm := evs_map hs hx
    unfold Oper.wp
    have : (execOp a.eval ⟨d, .call { callee := .value (.func f), args := xs.toArray, argTypes := ats }, ty, pos, after, g⟩).run P w = .ok (.enter f vs.toArray) w := by
      simp [execOp, resolve, Deferred.ofValue, Act.eval, invoke, hm]; exact he _ _
    rw [this]
    refine (h w hb ho).mono ?_
    rintro e w' ⟨rfl, hw⟩
    exact hn w' hw

/-! ### New blocks -/
theorem fr_alloc {t : TypeId} {zs : List Value} (hz : TyZ P t v zs) : Fresh P K G w0 ⟨d, .alloc t, ty, pos, after, g⟩ F (fun b => .pointer (some ⟨b, 0, none⟩)) (blk zs t) :=
  fun a w hs _ => by simp [execOp, Instr.alloc, hz.zero, newVar, newRow, newObj, hz.cells, Sem.run, World.alloc_eq]
theorem fr_box {t : TypeId} {l : List Value} {u : Value} (hx : ev F x = some u) (hl : u.cells = l.toArray) : Fresh P K G w0 ⟨d, .box t x, ty, pos, after, g⟩ F (fun b => .pointer (some ⟨b, 0, none⟩)) (blk l t) :=
  fun a w hs _ => by simp [execOp, Instr.box, hs.ev hx, newVar, newRow, newObj, hl, Sem.run, World.alloc_eq]

/-! ### Stores -/
theorem wr_store {t : TypeId} {s b o : Nat} {cs l cs' : List Value} {e : TypeId} {u : Value} (ht : sizeIn P t = some s) (hx : ev F x = some (.pointer (some ⟨b, o, none⟩))) (hy : ev F y = some u)
    (hl : u.cells = l.toArray) (hlen : l.length = s) (h1 : l.all (·.oneCell') = true) (hs : splice o l cs = some cs') : Writes P ⟨none, .store t x y, ty, pos, after, g⟩ F H b (blk cs e) (blk cs' e) :=
  fun a w hsl _ hb => ⟨_, by simp [execOp, hsl.ev hx, hsl.ev hy, Instr.storeAt, Instr.sureAddr, run_storeA ht hlen hb hs h1 hl], setRow_wrote hb⟩

end
end Go.Vm
