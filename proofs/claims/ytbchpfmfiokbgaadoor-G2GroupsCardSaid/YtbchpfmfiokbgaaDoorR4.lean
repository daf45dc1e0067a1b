/-
  Part 4 of the joined texts of the curves' laws: The curve's numbers and points as Go lays them, and when two of them are equal in Go.
  Conditions: those that each theorem states.
-/
import Derived.Test.YtbchpfmfiokbgaaDoorR3
import Derived.ChangeKeysEq
import Derived.Laws.StructEq
import Derived.Test.YtbchpfmfiokbgaaDoorR2
/- The curve's numbers and points as Go lays them, and when two of them are equal in Go. -/
namespace Go.Cu
open Go Go.Vm Go.RowKit Go.Proofs
attribute [local irreducible] W OpsW Det Fresh New Writes Vm.Pure Makes Changes ExternTo BuildTo ZeroTo FieldTo IndexTo BinTo SliceTo Vm.Enters

def cellsF (x : Fq) : List Value := [u64 (lim (mont x) 0), u64 (lim (mont x) 1), u64 (lim (mont x) 2), u64 (lim (mont x) 3), u64 (lim (mont x) 4), u64 (lim (mont x) 5)]
theorem encF_eq (x : Fq) : encF x = .agg (cellsF x).toArray := rfl

theorem lim6_inj {m k : Nat} (hm : m < R6) (hk : k < R6) (h0 : lim m 0 = lim k 0) (h1 : lim m 1 = lim k 1) (h2 : lim m 2 = lim k 2) (h3 : lim m 3 = lim k 3) (h4 : lim m 4 = lim k 4) (h5 : lim m 5 = lim k 5) : m = k := by
  rw [← val_lim6 hm, ← val_lim6 hk, h0, h1, h2, h3, h4, h5]
theorem mont_inj {x y : Fq} (h : mont x = mont y) : x = y := by
  have h1 : ∀ z : Fq, mont z * inv_pp % pp = z.val := fun z => by
    unfold mont
    rw [Nat.mod_mul_mod, Nat.mul_assoc, Nat.mul_mod, show R6 * inv_pp % pp = 1 from by decide +kernel, Nat.mul_one, Nat.mod_mod, Nat.mod_eq_of_lt z.lt]
  exact Zp.ext (by rw [← h1 x, h, h1 y])
theorem mont_R6 (x : Fq) : mont x < R6 := Nat.lt_trans (mont_lt x) (by decide)

/-- In every world the two are equal in Go just if b. -/
def EqTo (P : Program) (d : Nat) (t : TypeId) (u v : Value) (b : Bool) : Prop := ∀ w, (Op.equalIn d t u v).run P w = .ok b w

theorem eq_items {P : Program} {d e : Nat} (he : P.plainKey e = true) (hu : P.underlying e = some (.int .u64)) {xs ys : Array Value} {f g : Nat → Nat} (w : World) : ∀ (is : List Nat),
    (∀ i ∈ is, xs[i * 1]? = some (u64 (f i)) ∧ ys[i * 1]? = some (u64 (g i))) → (Op.eqItems (d + 1) e 1 xs ys is).run P w = .ok (is.all fun i => f i == g i) w
  | [], _ => by simp [Op.eqItems]
  | i :: is, h => by
    obtain ⟨h1, h2⟩ := h i (by simp)
    have ih := eq_items (d := d) he hu w is (fun j hj => h j (by simp [hj]))
    simp only [Op.eqItems, Sem.run_bind, run_part_plain w he h1, run_part_plain w he h2, Result.andThen_ok, u64, run_equalIn_int w d e .u64 .u64 _ _ hu, List.all_cons]
    by_cases hfg : f i = g i
    · simp [hfg, ih]
    · have : ((f i : Int) == (g i : Int)) = false := by simp; omega
      have h' : (f i == g i) = false := by simp [hfg]
      simp [this, h']
theorem eq_one {P : Program} {d t off ft : Nat} {nm : String} {xs ys : Array Value} {a b : Value} {r : Bool} (hu : P.underlying t = some (.struct (P.fieldsOf t))) (hs : P.stoodInHeld t = false)
    (hf : (P.fieldsOf t).toList.map (fun f => (f.name, f.type, f.offset)) = [(nm, ft, off)]) (hn : nm ≠ "_")
    (h1 : ∀ w, (part ft xs off).run P w = .ok a w) (h2 : ∀ w, (part ft ys off).run P w = .ok b w) (h : EqTo P d ft a b r) : EqTo P (d + 1) t (.agg xs) (.agg ys) r := fun w => by
  rw [run_equalIn_struct w d t xs ys hu hs]
  cases hl : (P.fieldsOf t).toList with
  | nil => simp [hl] at hf
  | cons f l =>
    simp only [hl, List.map_cons, List.cons.injEq, Prod.mk.injEq, List.map_eq_nil_iff] at hf
    obtain ⟨⟨rfl, rfl, rfl⟩, rfl⟩ := hf
    simp only [Op.eqFields, hn, ne_eq, not_false_eq_true, if_true, Sem.run_bind, h1, h2, h w, Result.andThen_ok]
    cases r <;> simp
theorem eq_two {P : Program} {d t off ft off' ft' : Nat} {nm nm' : String} {xs ys : Array Value} {a b a' b' : Value} {r r' : Bool} (hu : P.underlying t = some (.struct (P.fieldsOf t))) (hs : P.stoodInHeld t = false)
    (hf : (P.fieldsOf t).toList.map (fun f => (f.name, f.type, f.offset)) = [(nm, ft, off), (nm', ft', off')]) (hn : nm ≠ "_") (hn' : nm' ≠ "_")
    (h1 : ∀ w, (part ft xs off).run P w = .ok a w) (h2 : ∀ w, (part ft ys off).run P w = .ok b w) (h : EqTo P d ft a b r)
    (h1' : ∀ w, (part ft' xs off').run P w = .ok a' w) (h2' : ∀ w, (part ft' ys off').run P w = .ok b' w) (h' : EqTo P d ft' a' b' r') : EqTo P (d + 1) t (.agg xs) (.agg ys) (r && r') := fun w => by
  rw [run_equalIn_struct w d t xs ys hu hs]
  cases hl : (P.fieldsOf t).toList with
  | nil => simp [hl] at hf
  | cons f l =>
    cases l with
    | nil => simp [hl] at hf
    | cons f' l =>
      simp only [hl, List.map_cons, List.cons.injEq, Prod.mk.injEq, List.map_eq_nil_iff] at hf
      obtain ⟨⟨rfl, rfl, rfl⟩, ⟨rfl, rfl, rfl⟩, rfl⟩ := hf
      have hr := h w
      have hr' := h' w
      simp only [Op.eqFields, hn, hn', ne_eq, not_false_eq_true, if_true, Sem.run_bind, h1, h2, hr, Result.andThen_ok]
      cases r
      · simp
      · simp only [h1', h2', hr', Bool.not_true, Bool.false_eq_true, if_false, Sem.run_bind, Result.andThen_ok]
        cases r' <;> simp

theorem eqTo26 (d m k : Nat) : EqTo Tryd.prog (d + 2) 26 (enc6 m) (enc6 k) ((List.range 6).all fun i => lim m i == lim k i) := fun w => by
  unfold enc6
  obtain ⟨i, hi⟩ : ∃ i, Tryd.prog.info? 25 = some i := by
    have := sz25
    unfold sizeIn at this
    cases h : Tryd.prog.info? 25 with
    | none => simp [h] at this
    | some i => exact ⟨i, rfl⟩
  rw [run_equalIn_array w (d + 1) _ _ (show Tryd.prog.underlying 26 = some (.array 6 25) by kernel_rfl) hi, show Tryd.prog.cellsOf 25 = 1 by kernel_rfl]
  refine eq_items (show Tryd.prog.plainKey 25 = true by kernel_rfl) (show Tryd.prog.underlying 25 = some (.int .u64) by kernel_rfl) w _ fun i hi => ?_
  have : i < 6 := by simpa using hi
  have : i = 0 ∨ i = 1 ∨ i = 2 ∨ i = 3 ∨ i = 4 ∨ i = 5 := by omega
  rcases this with rfl | rfl | rfl | rfl | rfl | rfl <;> exact ⟨rfl, rfl⟩
theorem eqTo28 (d : Nat) (x y : Fq) : EqTo Tryd.prog (d + 3) 28 (encF x) (encF y) (decide (x = y)) := by
  have h := eqTo26 d (mont x) (mont y)
  have hb : ((List.range 6).all fun i => lim (mont x) i == lim (mont y) i) = decide (x = y) := by
    rw [Bool.eq_iff_iff, decide_eq_true_eq, List.all_eq_true]
    constructor
    · intro h
      have h' : ∀ i, i < 6 → lim (mont x) i = lim (mont y) i := fun i hi => by simpa using h i (by simpa using hi)
      exact mont_inj (lim6_inj (mont_R6 x) (mont_R6 y) (h' 0 (by decide)) (h' 1 (by decide)) (h' 2 (by decide)) (h' 3 (by decide)) (h' 4 (by decide)) (h' 5 (by decide)))
    · intro h; subst h; simp
  rw [hb] at h
  exact eq_one (by kernel_rfl) (by kernel_rfl) (nm := "v") (ft := 26) (off := 0) (by kernel_rfl) (by decide) (fun w => by kernel_rfl) (fun w => by kernel_rfl) h
theorem bin_of_eq {P : Program} {t : TypeId} {x y : Operand} {xs ys : Array Value} {b : Bool} (hg : P.eqGuardType P.depth t = false) (h : EqTo P 10000 t (.agg xs) (.agg ys) b) : BinTo P .eql t x y (.agg xs) (.agg ys) (.bool b) :=
  BinTo.of (fun w => run_eqGuard_agg w .eql t x y xs ys hg) (fun w => by rw [run_eql_struct, h w]; rfl)
theorem bin_of_ne {P : Program} {t : TypeId} {x y : Operand} {xs ys : Array Value} {b : Bool} (hg : P.eqGuardType P.depth t = false) (h : EqTo P 10000 t (.agg xs) (.agg ys) b) : BinTo P .neq t x y (.agg xs) (.agg ys) (.bool (!b)) :=
  BinTo.of (fun w => run_eqGuard_agg w .neq t x y xs ys hg) (fun w => by rw [run_neq_struct, h w]; rfl)

/-- A point, by its two coordinates; the point at nought is (0, 0). -/
abbrev Pt := Fq × Fq
def encP (p : Pt) : Value := .agg (cellsF p.1 ++ cellsF p.2).toArray
theorem eqTo30 (d : Nat) (p q : Pt) : EqTo Tryd.prog (d + 4) 30 (encP p) (encP q) (decide (p = q)) := by
  have h := eq_two (P := Tryd.prog) (d := d + 3) (t := 30) (xs := (cellsF p.1 ++ cellsF p.2).toArray) (ys := (cellsF q.1 ++ cellsF q.2).toArray) (by kernel_rfl) (by kernel_rfl) (nm := "X") (ft := 28) (off := 0) (nm' := "Y") (ft' := 28) (off' := 6) (by kernel_rfl) (by decide) (by decide)
    (fun w => by kernel_rfl) (fun w => by kernel_rfl) (eqTo28 d p.1 q.1) (fun w => by kernel_rfl) (fun w => by kernel_rfl) (eqTo28 d p.2 q.2)
  have hb : (decide (p.1 = q.1) && decide (p.2 = q.2)) = decide (p = q) := by
    rw [Bool.eq_iff_iff]; simp [Prod.ext_iff]
  rw [hb] at h
  exact h
theorem eq28 {x y : Operand} {a b : Fq} : BinTo Tryd.prog .eql 28 x y (encF a) (encF b) (.bool (decide (a = b))) := bin_of_eq (by kernel_rfl) (eqTo28 9997 a b)
theorem ne28 {x y : Operand} {a b : Fq} : BinTo Tryd.prog .neq 28 x y (encF a) (encF b) (.bool (!decide (a = b))) := bin_of_ne (by kernel_rfl) (eqTo28 9997 a b)
theorem eq30 {x y : Operand} {a b : Pt} : BinTo Tryd.prog .eql 30 x y (encP a) (encP b) (.bool (decide (a = b))) := bin_of_eq (by kernel_rfl) (eqTo30 9996 a b)
theorem ne30 {x y : Operand} {a b : Pt} : BinTo Tryd.prog .neq 30 x y (encP a) (encP b) (.bool (!decide (a = b))) := bin_of_ne (by kernel_rfl) (eqTo30 9996 a b)
end Go.Cu

/- The first group's field: what its functions compute: the walks. Conditions: none. -/
namespace Go.Cu
open Go Go.Vm Go.RowKit Go.Proofs 
attribute [local irreducible] W OpsW Det Fresh New Writes Vm.Pure Makes Changes ExternTo BuildTo ZeroTo FieldTo IndexTo BinTo SliceTo Vm.Enters
set_option linter.unusedVariables false
set_option linter.unusedSimpArgs false
variable {T : Nat → TypeId × Nat × Nat}

theorem Add_ok {x y : Fq} {w : World} (hG : Blocks (GH T) w) : Vm.Pure Tryd.prog 33 #[encF x, encF y] w (encF (x + y)) := (Add_w_ok (mont_lt x) (mont_lt y) hG).same (congrArg enc6 (mont_add x y))
theorem Sub_ok {x y : Fq} {w : World} (hG : Blocks (GH T) w) : Vm.Pure Tryd.prog 67 #[encF x, encF y] w (encF (x - y)) := (Sub_w_ok (mont_lt x) (mont_lt y) hG).same (congrArg enc6 (mont_sub x y))
theorem Mul_ok {x y : Fq} {w : World} (hG : Blocks (GH T) w) : Vm.Pure Tryd.prog 57 #[encF x, encF y] w (encF (x * y)) := (Mul_w_ok (mont_lt x) (mont_lt y) hG).same (congrArg enc6 (mont_mul x y))
/-- A word that is no number of the field is not asked: every word is below the modulus. -/
theorem of_words {n : Nat} (h : n < 18446744073709551616) : enc6 n = .agg #[u64 n, .int .u64 0, .int .u64 0, .int .u64 0, .int .u64 0, .int .u64 0] := by
  have := lim6 h (by decide : 0 < 18446744073709551616) (by decide : 0 < 18446744073709551616) (by decide : 0 < 18446744073709551616) (by decide : 0 < 18446744073709551616) (by decide : 0 < 18446744073709551616)
  have hv : val6 n 0 0 0 0 0 = n := by simp [val6]
  rw [hv] at this
  exact this
def R66 : Nat := val6 17644856173732828998 754043588434789617 10224657059481499349 7488229067341005760 11130996698012816685 1267921511277847466
theorem Of_call {n : Nat} {w : World} (hn : n < 18446744073709551616) (hG : Blocks (GH T) w) : Vm.Pure Tryd.prog 57 #[.agg #[u64 n, .int .u64 0, .int .u64 0, .int .u64 0, .int .u64 0, .int .u64 0], .agg glo1.toArray] w (encF (Zp.of n)) := by
  have h := Mul_w_ok (X := n) (Y := R66) (Nat.lt_trans hn (by decide)) (by decide) hG
  rw [← of_words hn]
  refine h.same (congrArg enc6 ?_)
  unfold mont
  show _ = (n % pp) * R6 % pp
  rw [Nat.mod_mul_mod, Nat.mul_assoc, Nat.mul_mod, show R66 * inv_pp % pp = R6 % pp from by decide +kernel, ← Nat.mul_mod]
section
variable {K : List Nat} {G : Hp} {w0 : World} {d : Option Tmp} {ty xt yt : TypeId} {pos : String} {after : Array Edge} {g : Option (Nat × Bool)} {F : Fr} {H : Hp} {x y : Operand}
theorem det_eql28 {a b : Fq} (hx : ev F x = some (encF a)) (hy : ev F y = some (encF b)) : Det Tryd.prog K G w0 ⟨d, .binOp .eql 28 x y yt, ty, pos, after, g⟩ F H (.bool (decide (a = b))) := det_binTo hx hy eq28
theorem det_neq28 {a b : Fq} (hx : ev F x = some (encF a)) (hy : ev F y = some (encF b)) : Det Tryd.prog K G w0 ⟨d, .binOp .neq 28 x y yt, ty, pos, after, g⟩ F H (.bool (!decide (a = b))) := det_binTo hx hy ne28
theorem det_eql30 {a b : Pt} (hx : ev F x = some (encP a)) (hy : ev F y = some (encP b)) : Det Tryd.prog K G w0 ⟨d, .binOp .eql 30 x y yt, ty, pos, after, g⟩ F H (.bool (decide (a = b))) := det_binTo hx hy eq30
theorem det_neq30 {a b : Pt} (hx : ev F x = some (encP a)) (hy : ev F y = some (encP b)) : Det Tryd.prog K G w0 ⟨d, .binOp .neq 30 x y yt, ty, pos, after, g⟩ F H (.bool (!decide (a = b))) := det_binTo hx hy ne30
end
/-- A point in Jacobi's coordinates. -/
abbrev Jac := Fq × Fq × Fq
def encJ (p : Jac) : Value := .agg (cellsF p.1 ++ cellsF p.2.1 ++ cellsF p.2.2).toArray

theorem bld26_0 {v0 : Int} : BuildTo Tryd.prog 26 [(0, .int .u64 v0)] (.agg #[.int .u64 v0, .int .u64 0, .int .u64 0, .int .u64 0, .int .u64 0, .int .u64 0]) := BuildTo.of fun _ => by kernel_rfl
theorem bz28 : ZeroTo Tryd.prog 28 (encF 0) := ZeroTo.of fun _ => by kernel_rfl
theorem en57 : Vm.Enters Tryd.prog 57 := Vm.Enters.of fun _ _ => by kernel_rfl
theorem en59 : Vm.Enters Tryd.prog 59 := Vm.Enters.of fun _ _ => by kernel_rfl
theorem en67 : Vm.Enters Tryd.prog 67 := Vm.Enters.of fun _ _ => by kernel_rfl
theorem Square_ok {x : Fq} {w : World} (hG : Blocks (GH T) w)  : Vm.Pure Tryd.prog 56 #[encF x] w (encF (x * x)) := by
  refine pure_of_W (n := 6) (args := [encF x]) Tryd.func56 rfl Tryd.ntmps56 (Nat.le_of_ble_eq_true rfl) hG ?_
  refine sStart ?_
  refine sSeq ?_
  refine W.region ?_
  refine OpsW.fresh (fr_box rfl rfl) rfl fun b1 => ?_
  refine OpsW.fresh (fr_alloc z28) rfl fun b2 => ?_
  refine sNext ?_
  refine W.keep (F' := [(2, _), (1, _)]) ⟨rfl, rfl, trivial⟩ ?_
  refine sSeq ?_
  refine W.region ?_
  refine OpsW.det (det_loadA ty28 rfl (List.Mem.tail _ (List.Mem.head _)) rfl) rfl ?_
  refine OpsW.det (det_loadA ty28 rfl (List.Mem.tail _ (List.Mem.head _)) rfl) rfl ?_
  refine OpsW.det (det_call en57 rfl (fun w hb ho => Cu.Mul_ok ho.blocks)) rfl ?_
  refine OpsW.store sz28 rfl rfl rfl rfl rfl (Upd.here) rfl ?_
  refine sNext ?_
  refine W.keep (F' := [(2, _)]) ⟨rfl, trivial⟩ ?_
  refine sRet ?_
  exact done1 Tryd.results56 (rv_cellA ty28 rfl (List.Mem.head _) rfl) rfl
theorem Neg_ok {x : Fq} {w : World} (hG : Blocks (GH T) w)  : Vm.Pure Tryd.prog 55 #[encF x] w (encF (0 - x)) := by
  refine pure_of_W (n := 6) (args := [encF x]) Tryd.func55 rfl Tryd.ntmps55 (Nat.le_of_ble_eq_true rfl) hG ?_
  refine sStart ?_
  refine sSeq ?_
  refine W.region ?_
  refine OpsW.fresh (fr_box rfl rfl) rfl fun b1 => ?_
  refine OpsW.fresh (fr_alloc z28) rfl fun b2 => ?_
  refine sNext ?_
  refine W.keep (F' := [(2, _), (1, _)]) ⟨rfl, rfl, trivial⟩ ?_
  refine sSeq ?_
  refine W.region ?_
  refine OpsW.det (det_zero bz28) rfl ?_
  refine OpsW.det (det_loadA ty28 rfl (List.Mem.tail _ (List.Mem.head _)) rfl) rfl ?_
  refine OpsW.det (det_call en67 rfl (fun w hb ho => Cu.Sub_ok ho.blocks)) rfl ?_
  refine OpsW.store sz28 rfl rfl rfl rfl rfl (Upd.here) rfl ?_
  refine sNext ?_
  refine W.keep (F' := [(2, _)]) ⟨rfl, trivial⟩ ?_
  refine sRet ?_
  exact done1 Tryd.results55 (rv_cellA ty28 rfl (List.Mem.head _) rfl) rfl
theorem Zero_ok {x : Fq} {w : World} (hG : Blocks (GH T) w)  : Vm.Pure Tryd.prog 61 #[encF x] w (.bool (decide (x = 0))) := by
  refine pure_of_W (n := 6) (args := [encF x]) Tryd.func61 rfl Tryd.ntmps61 (Nat.le_of_ble_eq_true rfl) hG ?_
  refine sStart ?_
  refine sSeq ?_
  refine W.region ?_
  refine OpsW.fresh (fr_box rfl rfl) rfl fun b1 => ?_
  refine OpsW.det (det_assign rfl) rfl ?_
  refine sNext ?_
  refine W.keep (F' := [(1, _)]) ⟨rfl, trivial⟩ ?_
  refine sSeq ?_
  refine W.region ?_
  refine OpsW.det (det_loadA ty28 rfl (List.Mem.head _) rfl) rfl ?_
  refine OpsW.det (det_zero bz28) rfl ?_
  refine OpsW.det (det_eql28 rfl rfl) rfl ?_
  refine OpsW.det (det_assign rfl) rfl ?_
  refine sNext ?_
  refine W.keep (F' := [(2, _)]) ⟨rfl, trivial⟩ ?_
  refine sRet ?_
  exact done1 Tryd.results61 (rv_tmp rfl) rfl
theorem Of_ok {n : Nat} (hn : n < 18446744073709551616) {w : World} (hG : Blocks (GH T) w)  : Vm.Pure Tryd.prog 59 #[u64 n] w (encF (Zp.of n)) := by
  refine pure_of_W (n := 9) (args := [u64 n]) Tryd.func59 rfl Tryd.ntmps59 (Nat.le_of_ble_eq_true rfl) hG ?_
  refine sStart ?_
  refine sSeq ?_
  refine W.region ?_
  refine OpsW.fresh (fr_alloc z28) rfl fun b2 => ?_
  refine sNext ?_
  refine sSeq ?_
  refine W.region ?_
  refine OpsW.det (det_move rfl) rfl ?_
  refine OpsW.det (det_build rfl bld26_0) rfl ?_
  refine OpsW.det (det_build rfl bld28) rfl ?_
  refine OpsW.det (det_loadA_ro ty26 rfl (List.Mem.tail _ (List.Mem.head _)) rfl) rfl ?_
  refine OpsW.det (det_build rfl bld28) rfl ?_
  refine OpsW.det (det_call en57 rfl (fun w hb ho => Of_call hn ho.blocks)) rfl ?_
  refine OpsW.store sz28 rfl rfl rfl rfl rfl (Upd.here) rfl ?_
  refine sNext ?_
  refine W.keep (F' := [(2, _)]) ⟨rfl, trivial⟩ ?_
  refine sRet ?_
  exact done1 Tryd.results59 (rv_cellA ty28 rfl (List.Mem.head _) rfl) rfl
theorem four_ok  {w : World} (hG : Blocks (GH T) w)  : Vm.Pure Tryd.prog 58 #[] w (encF (Zp.of 4)) := by
  refine pure_of_W (n := 2) (args := []) Tryd.func58 rfl Tryd.ntmps58 (Nat.le_of_ble_eq_true rfl) hG ?_
  refine sStart ?_
  refine sSeq ?_
  refine W.region ?_
  refine OpsW.fresh (fr_alloc z28) rfl fun b0 => ?_
  refine sNext ?_
  refine sSeq ?_
  refine W.region ?_
  refine OpsW.det (det_call en59 rfl (fun w hb ho => Of_ok (n := 4) (by decide) ho.blocks)) rfl ?_
  refine OpsW.store sz28 rfl rfl rfl rfl rfl (Upd.here) rfl ?_
  refine sNext ?_
  refine W.keep (F' := [(0, _)]) ⟨rfl, trivial⟩ ?_
  refine sRet ?_
  exact done1 Tryd.results58 (rv_cellA ty28 rfl (List.Mem.head _) rfl) rfl
theorem one_ok  {w : World} (hG : Blocks (GH T) w)  : Vm.Pure Tryd.prog 95 #[] w (encF (Zp.of 1)) := by
  refine pure_of_W (n := 2) (args := []) Tryd.func95 rfl Tryd.ntmps95 (Nat.le_of_ble_eq_true rfl) hG ?_
  refine sStart ?_
  refine sSeq ?_
  refine W.region ?_
  refine OpsW.fresh (fr_alloc z28) rfl fun b0 => ?_
  refine sNext ?_
  refine sSeq ?_
  refine W.region ?_
  refine OpsW.det (det_call en59 rfl (fun w hb ho => Of_ok (n := 1) (by decide) ho.blocks)) rfl ?_
  refine OpsW.store sz28 rfl rfl rfl rfl rfl (Upd.here) rfl ?_
  refine sNext ?_
  refine W.keep (F' := [(0, _)]) ⟨rfl, trivial⟩ ?_
  refine sRet ?_
  exact done1 Tryd.results95 (rv_cellA ty28 rfl (List.Mem.head _) rfl) rfl

end Go.Cu

/- The first group's field: powers: the walk. Conditions: none. -/
namespace Go.Cu
open Go Go.Vm Go.RowKit Go.Proofs 
attribute [local irreducible] W OpsW Det Fresh New Writes Vm.Pure Makes Changes ExternTo BuildTo ZeroTo FieldTo IndexTo BinTo SliceTo Vm.Enters
set_option linter.unusedVariables false
set_option linter.unusedSimpArgs false
variable {T : Nat → TypeId × Nat × Nat}

def tabF : Nat → (Nat → Fq) → Nat → List Value
  | 0, _, _ => []
  | n + 1, f, i => cellsF (f i) ++ tabF n f (i + 1)
/-- Sixteen numbers, one behind the other. -/
def tabL (f : Nat → Fq) : List Value := tabF 16 f 0
theorem tab_cut {f : Nat → Fq} {i k : Nat} (h : i < 16) (hk : k = i * 6) : cut k 6 (tabL f) = some (cellsF (f i)) := by
  subst hk
  have : i = 0 ∨ i = 1 ∨ i = 2 ∨ i = 3 ∨ i = 4 ∨ i = 5 ∨ i = 6 ∨ i = 7 ∨ i = 8 ∨ i = 9 ∨ i = 10 ∨ i = 11 ∨ i = 12 ∨ i = 13 ∨ i = 14 ∨ i = 15 := by omega
  rcases this with rfl | rfl | rfl | rfl | rfl | rfl | rfl | rfl | rfl | rfl | rfl | rfl | rfl | rfl | rfl | rfl <;> rfl
theorem tabF_congr {f g : Nat → Fq} : ∀ {n i : Nat}, (∀ j, i ≤ j → j < i + n → f j = g j) → tabF n f i = tabF n g i
  | 0, _, _ => rfl
  | n + 1, i, h => by rw [tabF, tabF, h i (by omega) (by omega), tabF_congr (n := n) (i := i + 1) fun j h1 h2 => h j (by omega) (by omega)]
theorem tab_put {f : Nat → Fq} {v : Fq} {i : Nat} (h : i < 16) : splice (i * 6) (cellsF v) (tabL f) = some (tabL fun j => match Nat.beq j i with | true => v | false => f j) := by
  have : i = 0 ∨ i = 1 ∨ i = 2 ∨ i = 3 ∨ i = 4 ∨ i = 5 ∨ i = 6 ∨ i = 7 ∨ i = 8 ∨ i = 9 ∨ i = 10 ∨ i = 11 ∨ i = 12 ∨ i = 13 ∨ i = 14 ∨ i = 15 := by omega
  rcases this with rfl | rfl | rfl | rfl | rfl | rfl | rfl | rfl | rfl | rfl | rfl | rfl | rfl | rfl | rfl | rfl <;> rfl
theorem tab_splice {f f' : Nat → Fq} {v : Fq} {i k : Nat} (h : i < 16) (hk : k = i * 6) (hv : f' i = v) (hf : ∀ j, j ≠ i → f' j = f j) : splice k (cellsF v) (tabL f) = some (tabL f') := by
  subst hk
  rw [tab_put h]
  refine congrArg some (tabF_congr fun j _ _ => ?_)
  by_cases hj : j = i
  · subst hj; simp [hv]
  · have : Nat.beq j i = false := by cases hb : Nat.beq j i with | false => rfl | true => exact absurd (Nat.eq_of_beq_eq_true hb) hj
    simp [this, hf j hj]
/-- The powers of x below the i-th, and noughts. -/
def pwt (x : Fq) (i j : Nat) : Fq := if j < i then pw x j else 0
theorem pwt_new {x : Fq} {i : Nat} (h : 0 < i) : pwt x (i + 1) i = pwt x i (i - 1) * x := by
  obtain ⟨k, rfl⟩ : ∃ k, i = k + 1 := ⟨i - 1, by omega⟩
  simp only [pwt, Nat.lt_succ_self, if_true, Nat.add_sub_cancel]
  rfl
theorem pwt_old {x : Fq} {i : Nat} : ∀ j, j ≠ i → pwt x (i + 1) j = pwt x i j := fun j hj => by
  unfold pwt
  by_cases h : j < i
  · rw [if_pos h, if_pos (by omega)]
  · rw [if_neg h, if_neg (by omega)]
theorem tab_zero {x : Fq} : splice 0 (cellsF (Zp.of 1)) (tabL fun _ => 0) = some (tabL (pwt x 1)) :=
  tab_splice (i := 0) (f' := pwt x 1) (by decide) rfl rfl fun j hj => by unfold pwt; rw [if_neg (by omega)]
def top (E k : Nat) : Nat := E / 2 ^ (4 * k)
theorem word_bits {E k : Nat} : lim E (4 * k / 64) / 2 ^ (4 * k % 64) % 2 ^ 4 = top E k % 16 := by
  unfold lim top
  have h1 : 18446744073709551616 ^ (4 * k / 64) = 2 ^ (64 * (4 * k / 64)) := by rw [Nat.pow_mul]
  have h2 : 4 * k % 64 + 4 ≤ 64 := by omega
  rw [h1, show (18446744073709551616 : Nat) = 2 ^ (4 * k % 64) * 2 ^ (64 - 4 * k % 64) by rw [← Nat.pow_add, show 4 * k % 64 + (64 - 4 * k % 64) = 64 by omega]]
  rw [Nat.mod_mul_right_div_self, Nat.div_div_eq_div_mul, ← Nat.pow_add, show 64 * (4 * k / 64) + 4 * k % 64 = 4 * k by omega]
  rw [Nat.mod_mod_of_dvd _ (Nat.pow_dvd_pow 2 (by omega))]
theorem pw_round {x : Fq} {E k : Nat} : pw x (top E k) = (let y := pw x (top E (k + 1)); let z := y * y; let u := z * z; let v := u * u; v * v) * pw x (top E k % 16) := by
  unfold top
  have h : E / 2 ^ (4 * (k + 1)) = E / 2 ^ (4 * k) / 16 := by rw [Nat.mul_succ, Nat.pow_add, ← Nat.div_div_eq_div_mul]
  rw [h]
  have := pw_16 x (E / 2 ^ (4 * k) / 16)
  simp only at this ⊢
  rw [← this, ← pw_add, Nat.div_add_mod]
theorem z106 : TyZ Tryd.prog 106 (.agg (tabL fun _ => 0).toArray) (tabL fun _ => 0) := ⟨fun _ => by kernel_rfl, by kernel_rfl⟩
theorem idx26' {m i : Nat} (h : i < 6) : cut i 1 [u64 (lim m 0), u64 (lim m 1), u64 (lim m 2), u64 (lim m 3), u64 (lim m 4), u64 (lim m 5)] = some [u64 (lim m i)] := by
  have : i = 0 ∨ i = 1 ∨ i = 2 ∨ i = 3 ∨ i = 4 ∨ i = 5 := by omega
  rcases this with rfl | rfl | rfl | rfl | rfl | rfl <;> rfl
theorem at26 {m i k : Nat} (h : i < 6) (hk : k = i) : [u64 (lim m 0), u64 (lim m 1), u64 (lim m 2), u64 (lim m 3), u64 (lim m 4), u64 (lim m 5)][k]? = some (u64 (lim m i)) := by
  subst hk
  have : k = 0 ∨ k = 1 ∨ k = 2 ∨ k = 3 ∨ k = 4 ∨ k = 5 := by omega
  rcases this with rfl | rfl | rfl | rfl | rfl | rfl <;> rfl
theorem pwt_at {x : Fq} {j : Nat} (h : j < 16) : pwt x 16 j = pw x j := by unfold pwt; rw [if_pos h]
theorem pw_round0 {x : Fq} {E k : Nat} (h : top E k % 16 = 0) : (let y := pw x (top E (k + 1)); let z := y * y; let u := z * z; let v := u * u; v * v) = pw x (top E k) := by
  rw [pw_round (x := x) (E := E) (k := k), h, pw, mul_one']
theorem lt_pow {E a b m : Nat} (hm : a + b = m) (h : E < 2 ^ a * 2 ^ b) : E < 2 ^ m := by subst hm; rw [Nat.pow_add]; exact h
theorem top_96 {E m : Nat} (hE : E < R6) (hm : 192 + 192 = 4 * m) : top E m = 0 := Nat.div_eq_of_lt (lt_pow hm (Nat.lt_of_lt_of_le hE (by decide)))
theorem top_0 {E : Nat} : top E 0 = E := Nat.div_one E
theorem pw_round1 {x : Fq} {E k : Nat} : pw x (top E k) = (let y := pw x (top E (k + 1)); let z := y * y; let u := z * z; let v := u * u; v * v) * pwt x 16 (top E k % 16) := by
  rw [pwt_at (Nat.mod_lt _ (by decide)), pw_round (x := x) (E := E) (k := k)]
theorem sub_cell {a b : Fq} {n t : Nat} {r : Hp} (h : a = b) : List.Sublist ((n, blk (cellsF a) t) :: r) ((n, blk (cellsF b) t) :: r) := by subst h; exact List.Sublist.refl _

theorem en56 : Vm.Enters Tryd.prog 56 := Vm.Enters.of fun _ _ => by kernel_rfl
theorem u106 : Tryd.prog.underlying 106 = some (.array 16 28) := by kernel_rfl
theorem power_ok {x : Fq} {E : Nat} (hE : E < R6) {w : World} (hG : Blocks (GH T) w)  : Vm.Pure Tryd.prog 97 #[encF x, .agg #[u64 (lim (E) 0), u64 (lim (E) 1), u64 (lim (E) 2), u64 (lim (E) 3), u64 (lim (E) 4), u64 (lim (E) 5)]] w (encF (pw x E)) := by
  refine pure_of_W (n := 51) (args := [encF x, .agg #[u64 (lim (E) 0), u64 (lim (E) 1), u64 (lim (E) 2), u64 (lim (E) 3), u64 (lim (E) 4), u64 (lim (E) 5)]]) Tryd.func97 rfl Tryd.ntmps97 (Nat.le_of_ble_eq_true rfl) hG ?_
  refine sStart ?_
  refine sSeq ?_
  refine W.region ?_
  refine OpsW.fresh (fr_box rfl rfl) rfl fun b2 => ?_
  refine OpsW.fresh (fr_box rfl rfl) rfl fun b3 => ?_
  refine OpsW.fresh (fr_alloc z28) rfl fun b4 => ?_
  refine sNext ?_
  refine W.keep (F' := [(4, _), (3, _), (2, _)]) ⟨rfl, rfl, rfl, trivial⟩ ?_
  refine sSeq ?_
  refine W.region ?_
  refine OpsW.fresh (fr_alloc z106) rfl fun b5 => ?_
  refine sNext ?_
  refine sSeq ?_
  refine W.region ?_
  refine OpsW.det (det_call en59 rfl (fun w hb ho => Of_ok (n := 1) (by decide) ho.blocks)) rfl ?_
  refine OpsW.det (det_indexAddr_arr u106 sz28 rfl rfl ⟨by decide, by decide⟩) rfl ?_
  refine OpsW.store sz28 rfl rfl rfl rfl rfl (Upd.here) (tab_zero (x := x)) ?_
  refine sNext ?_
  refine W.keep (F' := [(5, _), (4, _), (3, _), (2, _)]) ⟨rfl, rfl, rfl, rfl, trivial⟩ ?_
  refine sSeq ?_
  refine sSeq ?_
  refine W.region ?_
  refine OpsW.det (det_assign rfl) rfl ?_
  refine sNext ?_
  refine sBlock ?_
  refine sLoop (σ := Nat) (fun i => [(6, .int .i64 (i : Nat)), (5, .pointer (some ⟨b5, 0, none⟩)), (4, .pointer (some ⟨b4, 0, none⟩)), (3, .pointer (some ⟨b3, 0, none⟩)), (2, .pointer (some ⟨b2, 0, none⟩))]) (fun i => [(b5, blk (tabL (pwt x i)) 106), (b4, blk [.int .u64 0, .int .u64 0, .int .u64 0, .int .u64 0, .int .u64 0, .int .u64 0] 28), (b3, blk [u64 (lim E 0), u64 (lim E 1), u64 (lim E 2), u64 (lim E 3), u64 (lim E 4), u64 (lim E 5)] 26), (b2, blk (cellsF x) 28)]) (fun i => 0 < i ∧ i ≤ 16) (fun i => 16 - i) 1 ⟨by decide, by decide⟩ ⟨rfl, rfl, rfl, rfl, rfl, trivial⟩ (List.Sublist.refl _) ?_
  rintro i ⟨hi0, hi⟩
  refine sSeq ?_
  refine sSeq ?_
  refine W.region ?_
  refine OpsW.det (det_move rfl) rfl ?_
  refine OpsW.det (det_lss rfl rfl) rfl ?_
  refine sNext ?_
  refine W.keep (F' := [(13, _), (6, _), (5, _), (4, _), (3, _), (2, _)]) ⟨rfl, rfl, rfl, rfl, rfl, rfl, trivial⟩ ?_
  refine W.cond rfl (fun hc13 => ?_) (fun hc13 => ?_)
  · skip
    have hlt : i < 16 := by have h := hc13; simp only [decide_eq_true_eq] at h; omega
    refine sSkip ?_
    refine sSeq ?_
    refine sBlock ?_
    refine W.draw mixed 8 [[], [], [1], [1, 2], [1, 2, 3], [], [1, 2, 3, 4, 5], [0, 1, 2, 3, 4, 5, 6], [0, 1, 2, 3, 4, 5, 6, 7]] (cl_lt (by decide)) ?_
    refine HeadR.start (cl_lt (by decide)) ?_
    refine HeadR.det rfl (fun β hβ => (det_move rfl)) ?_
    refine HeadR.det rfl (fun β hβ => (det_move rfl)) ?_
    refine HeadR.det rfl (fun β hβ => ((det_subZ (c := ((i - 1 : Nat) : Int)) rfl rfl (by omega) (by omega)))) ?_
    refine HeadR.det rfl (fun β hβ => (det_indexAddr_arr u106 sz28 rfl rfl ⟨by omega, by omega⟩)) ?_
    refine HeadR.det rfl (fun β hβ => (det_loadA ty28 rfl (List.Mem.head _) (tab_cut (i := i - 1) (by omega) (by omega)))) ?_
    refine HeadR.det rfl (fun β hβ => (det_loadA ty28 rfl (List.Mem.tail _ (List.Mem.tail _ (List.Mem.tail _ (List.Mem.head _)))) rfl)) ?_
    refine HeadR.det rfl (fun β hβ => (det_call en57 rfl (fun w hb ho => Cu.Mul_ok ho.blocks))) ?_
    refine HeadR.det rfl (fun β hβ => (det_indexAddr_arr u106 sz28 rfl rfl ⟨by omega, by omega⟩)) ?_
    refine HeadR.done ⟨by kernel_rfl, fun β hβ => ?_⟩
    refine OpsW.norm (F' := [(16, _), (17, _), (18, _), (19, _), (20, _), (21, _), (22, _), (23, _), (13, _), (6, _), (5, _), (4, _), (3, _), (2, _)]) (H' := [(_, _), (_, _), (_, _), (_, _)]) rfl rfl ?_
    refine OpsW.store sz28 rfl rfl rfl rfl rfl (Upd.here) (tab_splice (f' := pwt x (i + 1)) hlt (by omega) (pwt_new hi0) pwt_old) ?_
    refine sLast ?_
    refine bNext ?_
    refine W.keep (F' := [(6, _), (5, _), (4, _), (3, _), (2, _)]) ⟨rfl, rfl, rfl, rfl, rfl, trivial⟩ ?_
    refine W.region ?_
    refine OpsW.det (det_move rfl) rfl ?_
    refine OpsW.det (det_addN (b := 1) rfl rfl (by omega)) rfl ?_
    refine OpsW.det (det_assign rfl) rfl ?_
    refine sLast ?_
    exact rEnd (i + 1) ⟨by omega, by omega⟩ ⟨rfl, rfl, rfl, rfl, rfl, trivial⟩ (List.Sublist.refl _) (by omega)
  · skip
    have hi16 : i = 16 := by have h := hc13; simp only [decide_eq_false_iff_not] at h; omega
    subst hi16
    refine sExit ?_
    refine xLoop ?_
    refine xHere ?_
    refine W.keep (F' := [(5, _), (4, _), (3, _)]) ⟨rfl, rfl, rfl, trivial⟩ ?_
    refine sSeq ?_
    refine W.region ?_
    refine OpsW.det (det_indexAddr_arr u106 sz28 rfl rfl ⟨by decide, by decide⟩) rfl ?_
    refine OpsW.det (det_loadA ty28 rfl (List.Mem.head _) (tab_cut (i := 0) (by omega) (by omega))) rfl ?_
    refine OpsW.fresh (fr_alloc z28) rfl fun b7 => ?_
    refine OpsW.store sz28 rfl rfl rfl rfl rfl (Upd.here) rfl ?_
    refine sNext ?_
    refine W.keep (F' := [(7, _), (5, _), (4, _), (3, _)]) ⟨rfl, rfl, rfl, rfl, trivial⟩ ?_
    refine sSeq ?_
    refine sSeq ?_
    refine W.region ?_
    refine OpsW.det (det_assign rfl) rfl ?_
    refine sNext ?_
    refine sBlock ?_
    have hs : pwt x 16 0 = pw x (top E 96) := by rw [pwt_at (by decide), top_96 hE rfl]
    refine sLoop (σ := Nat) (fun k => [(8, .int .i64 (4 * ((k : Nat) : Int) - 4)), (7, .pointer (some ⟨b7, 0, none⟩)), (5, .pointer (some ⟨b5, 0, none⟩)), (4, .pointer (some ⟨b4, 0, none⟩)), (3, .pointer (some ⟨b3, 0, none⟩))]) (fun k => [(b7, blk (cellsF (pw x (top E k))) 28), (b5, blk (tabL (pwt x 16)) 106), (b4, blk [.int .u64 0, .int .u64 0, .int .u64 0, .int .u64 0, .int .u64 0, .int .u64 0] 28), (b3, blk [u64 (lim E 0), u64 (lim E 1), u64 (lim E 2), u64 (lim E 3), u64 (lim E 4), u64 (lim E 5)] 26), (b2, blk (cellsF x) 28)]) (fun k => k ≤ 96) (fun k => k) 96 (Nat.le_refl _) ⟨rfl, rfl, rfl, rfl, rfl, trivial⟩ (sub_cell hs.symm) ?_
    intro k hk
    refine sSeq ?_
    refine sSeq ?_
    refine W.region ?_
    refine OpsW.det (det_move rfl) rfl ?_
    refine OpsW.det (det_geq rfl rfl) rfl ?_
    refine sNext ?_
    refine W.keep (F' := [(27, _), (8, _), (7, _), (5, _), (4, _), (3, _)]) ⟨rfl, rfl, rfl, rfl, rfl, rfl, trivial⟩ ?_
    refine W.cond rfl (fun hc27 => ?_) (fun hc27 => ?_)
    · skip
      obtain ⟨k, rfl⟩ : ∃ j, k = j + 1 := ⟨k - 1, by have h := hc27; simp only [decide_eq_true_eq] at h; omega⟩
      refine W.norm (F' := [(27, _), (8, .int .i64 ((4 * k : Nat) : Int)), (7, _), (5, _), (4, _), (3, _)]) (H' := [(_, _), (_, _), (_, _), (_, _), (_, _)]) (by rw [show (4 * ((k + 1 : Nat) : Int) - 4) = ((4 * k : Nat) : Int) by omega]) rfl ?_
      refine sSkip ?_
      refine sSeq ?_
      refine sBlock ?_
      refine sSeq ?_
      refine W.region ?_
      refine OpsW.det (det_loadA ty28 rfl (List.Mem.head _) rfl) rfl ?_
      refine OpsW.det (det_call en56 rfl (fun w hb ho => Cu.Square_ok ho.blocks)) rfl ?_
      refine OpsW.det (det_call en56 rfl (fun w hb ho => Cu.Square_ok ho.blocks)) rfl ?_
      refine OpsW.det (det_call en56 rfl (fun w hb ho => Cu.Square_ok ho.blocks)) rfl ?_
      refine OpsW.det (det_call en56 rfl (fun w hb ho => Cu.Square_ok ho.blocks)) rfl ?_
      refine OpsW.store sz28 rfl rfl rfl rfl rfl (Upd.here) rfl ?_
      refine sNext ?_
      refine W.keep (F' := [(8, _), (7, _), (5, _), (4, _), (3, _)]) ⟨rfl, rfl, rfl, rfl, rfl, trivial⟩ ?_
      refine sSeq ?_
      refine W.region ?_
      refine OpsW.det (det_move rfl) rfl ?_
      refine OpsW.det (det_quoN (b := 64) rfl rfl (by decide) (by omega)) rfl ?_
      refine OpsW.det (det_indexAddr_arr u26 sz25 rfl rfl ⟨by omega, by omega⟩) rfl ?_
      refine OpsW.det (det_loadC ty25 rfl (List.Mem.tail _ (List.Mem.tail _ (List.Mem.tail _ (List.Mem.head _)))) (at26 (m := E) (i := 4 * k / 64) (by omega) (by omega))) rfl ?_
      refine OpsW.det (det_move rfl) rfl ?_
      refine OpsW.det (det_remN (b := 64) rfl rfl (by decide)) rfl ?_
      refine OpsW.det (det_shrN rfl rfl (by omega)) rfl ?_
      refine OpsW.det ((det_maskN (m := 15) (k := 4) rfl rfl (Nat.lt_of_le_of_lt (Nat.div_le_self _ _) (lim_lt _ _)) rfl (by decide)).to (congrArg (fun z : Nat => u64 z) (word_bits (E := E) (k := k)))) rfl ?_
      refine OpsW.det (det_assign rfl) rfl ?_
      refine sNext ?_
      refine W.keep (F' := [(9, _), (8, _), (7, _), (5, _), (4, _), (3, _)]) ⟨rfl, rfl, rfl, rfl, rfl, rfl, trivial⟩ ?_
      refine sSeq ?_
      refine W.region ?_
      refine OpsW.det (det_move rfl) rfl ?_
      refine OpsW.det (det_gtr rfl rfl) rfl ?_
      refine sNext ?_
      refine W.keep (F' := [(44, _), (9, _), (8, _), (7, _), (5, _), (4, _), (3, _)]) ⟨rfl, rfl, rfl, rfl, rfl, rfl, rfl, trivial⟩ ?_
      refine W.cond rfl (fun hc44 => ?_) (fun hc44 => ?_)
      · skip
        refine W.draw mixed 5 [[], [], [1], [1, 2], [0, 1, 2, 3], [0, 1, 2, 3, 4]] (cl_lt (by decide)) ?_
        refine HeadR.start (cl_lt (by decide)) ?_
        refine HeadR.det rfl (fun β hβ => (det_loadA ty28 rfl (List.Mem.head _) rfl)) ?_
        refine HeadR.det rfl (fun β hβ => (det_move rfl)) ?_
        refine HeadR.det rfl (fun β hβ => (det_indexAddr_arr u106 sz28 rfl rfl ⟨by omega, by omega⟩)) ?_
        refine HeadR.det rfl (fun β hβ => (det_loadA ty28 rfl (List.Mem.tail _ (List.Mem.head _)) (tab_cut (i := top E k % 16) (by omega) (by omega)))) ?_
        refine HeadR.det rfl (fun β hβ => (det_call en57 rfl (fun w hb ho => Cu.Mul_ok ho.blocks))) ?_
        refine HeadR.done ⟨by kernel_rfl, fun β hβ => ?_⟩
        refine OpsW.norm (F' := [(45, _), (46, _), (47, _), (48, _), (49, _), (44, _), (9, _), (8, _), (7, _), (5, _), (4, _), (3, _)]) (H' := [(_, _), (_, _), (_, _), (_, _), (_, _)]) rfl rfl ?_
        refine OpsW.store sz28 rfl rfl rfl rfl rfl (Upd.here) rfl ?_
        refine sLast ?_
        refine bNext ?_
        refine W.keep (F' := [(8, _), (7, _), (5, _), (4, _), (3, _)]) ⟨rfl, rfl, rfl, rfl, rfl, trivial⟩ ?_
        refine W.region ?_
        refine OpsW.det (det_move rfl) rfl ?_
        refine OpsW.det (det_subZ (c := 4 * ((k : Nat) : Int) - 4) rfl rfl rfl (by omega)) rfl ?_
        refine OpsW.det (det_assign rfl) rfl ?_
        refine sLast ?_
        exact rEnd k (by omega) ⟨rfl, rfl, rfl, rfl, rfl, trivial⟩ (sub_cell (pw_round1 (x := x) (E := E) (k := k))) (by omega)
      · skip
        refine sSkip0 ?_
        refine bNext ?_
        refine W.keep (F' := [(8, _), (7, _), (5, _), (4, _), (3, _)]) ⟨rfl, rfl, rfl, rfl, rfl, trivial⟩ ?_
        refine W.region ?_
        refine OpsW.det (det_move rfl) rfl ?_
        refine OpsW.det (det_subZ (c := 4 * ((k : Nat) : Int) - 4) rfl rfl rfl (by omega)) rfl ?_
        refine OpsW.det (det_assign rfl) rfl ?_
        refine sLast ?_
        have hd : top E k % 16 = 0 := by have h := hc44; simp only [decide_eq_false_iff_not] at h; omega
        exact rEnd k (by omega) ⟨rfl, rfl, rfl, rfl, rfl, trivial⟩ (sub_cell (pw_round0 (x := x) hd).symm) (by omega)
    · skip
      have hk0 : k = 0 := by have h := hc27; simp only [decide_eq_false_iff_not] at h; omega
      subst hk0
      refine sExit ?_
      refine xLoop ?_
      refine xHere ?_
      refine W.keep (F' := [(7, _), (4, _)]) ⟨rfl, rfl, trivial⟩ ?_
      refine sSeq ?_
      refine W.region ?_
      refine OpsW.det (det_loadA ty28 rfl (List.Mem.head _) rfl) rfl ?_
      refine OpsW.store sz28 rfl rfl rfl rfl rfl (Upd.there (Upd.there (Upd.here))) rfl ?_
      refine sNext ?_
      refine W.keep (F' := [(4, _)]) ⟨rfl, trivial⟩ ?_
      refine sRet ?_
      exact done1 Tryd.results97 (rv_cellA ty28 rfl (List.Mem.tail _ (List.Mem.tail _ (List.Mem.head _))) rfl) (congrArg (fun n => encF (pw x n)) top_0)

end Go.Cu

/- The first group's points: what Neg, On, Add compute: the walks. Conditions: none. -/
namespace Go.Cu
open Go Go.Vm Go.RowKit Go.Proofs 
attribute [local irreducible] W OpsW Det Fresh New Writes Vm.Pure Makes Changes ExternTo BuildTo ZeroTo FieldTo IndexTo BinTo SliceTo Vm.Enters
set_option linter.unusedVariables false
set_option linter.unusedSimpArgs false
variable {T : Nat → TypeId × Nat × Nat}

def inv (x : Fq) : Fq := pw x (pp - 2)
def four : Fq := Zp.of 4
def pneg (p : Pt) : Pt := if p = (0, 0) then p else (p.1, 0 - p.2)
def onB (p : Pt) : Bool := decide (p = (0, 0)) || decide (p.2 * p.2 = p.1 * p.1 * p.1 + four)
def tojac (p : Pt) : Jac := if p = (0, 0) then (0, 0, 0) else (p.1, p.2, Zp.of 1)
def jdbl (p : Jac) : Jac :=
  if p.2.2 = 0 then (0, 0, 0) else if p.2.1 = 0 then (0, 0, 0) else
    let a := p.1 * p.1
    let b := p.2.1 * p.2.1
    let c := b * b
    let d0 := (p.1 + b) * (p.1 + b) - a - c
    let d := d0 + d0
    let e := a + a + a
    let f := e * e - d - d
    let c4 := (c + c) + (c + c)
    (f, e * (d - f) - c4 - c4, p.2.1 * p.2.2 + p.2.1 * p.2.2)
def jaddH (p : Jac) (q : Pt) : Fq := q.1 * (p.2.2 * p.2.2) - p.1
def jaddR (p : Jac) (q : Pt) : Fq := q.2 * p.2.2 * (p.2.2 * p.2.2) - p.2.1
def jaddN (p : Jac) (q : Pt) : Jac :=
  let zz := p.2.2 * p.2.2
  let h := jaddH p q
  let r := jaddR p q + jaddR p q
  let hh := h * h
  let i := (hh + hh) + (hh + hh)
  let j := h * i
  let v := p.1 * i
  let x := r * r - j - v - v
  let yj := p.2.1 * j
  (x, r * (v - x) - yj - yj, (p.2.2 + h) * (p.2.2 + h) - zz - hh)
def jadd (p : Jac) (q : Pt) : Jac :=
  if q = (0, 0) then p else if p.2.2 = 0 then tojac q else if jaddH p q = 0 then (if jaddR p q = 0 then jdbl p else (0, 0, 0)) else jaddN p q
def point (p : Jac) : Pt := if p.2.2 = 0 then (0, 0) else
  let i := inv p.2.2
  let i2 := i * i
  (p.1 * i2, p.2.1 * i2 * i)
def padd (p q : Pt) : Pt := point (jadd (tojac p) q)
theorem Inv_call {x : Fq} {w : World} (hG : Blocks (GH T) w) : Vm.Pure Tryd.prog 97 #[encF x, .agg #[u64 13402431016077863593, u64 2210141511517208575, u64 7435674573564081700, u64 7239337960414712511, u64 5412103778470702295, u64 1873798617647539866]] w (encF (inv x)) := by
  have h := power_ok (x := x) (E := pp - 2) (by decide) hG
  have e : Value.agg #[u64 (lim (pp - 2) 0), u64 (lim (pp - 2) 1), u64 (lim (pp - 2) 2), u64 (lim (pp - 2) 3), u64 (lim (pp - 2) 4), u64 (lim (pp - 2) 5)] = .agg #[u64 13402431016077863593, u64 2210141511517208575, u64 7435674573564081700, u64 7239337960414712511, u64 5412103778470702295, u64 1873798617647539866] := by kernel_rfl
  rw [e] at h
  exact h
theorem dt {p : Prop} [Decidable p] (h : decide p = true) : p := of_decide_eq_true h
theorem df {p : Prop} [Decidable p] (h : decide p = false) : ¬ p := of_decide_eq_false h
theorem pneg_yes {p : Pt} (h : decide (p = (0, 0)) = true) : pneg p = p := if_pos (dt h)
theorem pneg_no {p : Pt} (h : decide (p = (0, 0)) = false) : pneg p = (p.1, 0 - p.2) := if_neg (df h)
theorem tojac_yes {p : Pt} (h : decide (p = (0, 0)) = true) : tojac p = (0, 0, 0) := if_pos (dt h)
theorem tojac_no {p : Pt} (h : decide (p = (0, 0)) = false) : tojac p = (p.1, p.2, Zp.of 1) := if_neg (df h)
theorem point_yes {p : Jac} (h : decide (p.2.2 = 0) = true) : point p = (0, 0) := if_pos (dt h)
theorem point_no {p : Jac} (h : decide (p.2.2 = 0) = false) : point p = (p.1 * (inv p.2.2 * inv p.2.2), p.2.1 * (inv p.2.2 * inv p.2.2) * inv p.2.2) := if_neg (df h)
theorem jdbl_z {p : Jac} (h : decide (p.2.2 = 0) = true) : jdbl p = (0, 0, 0) := if_pos (dt h)
theorem jdbl_y {p : Jac} (h : decide (p.2.2 = 0) = false) (h2 : decide (p.2.1 = 0) = true) : jdbl p = (0, 0, 0) := (if_neg (df h)).trans (if_pos (dt h2))
theorem jdbl_no {p : Jac} (h : decide (p.2.2 = 0) = false) (h2 : decide (p.2.1 = 0) = false) : jdbl p = (
    let a := p.1 * p.1
    let b := p.2.1 * p.2.1
    let c := b * b
    let d0 := (p.1 + b) * (p.1 + b) - a - c
    let d := d0 + d0
    let e := a + a + a
    let f := e * e - d - d
    let c4 := (c + c) + (c + c)
    (f, e * (d - f) - c4 - c4, p.2.1 * p.2.2 + p.2.1 * p.2.2)) := (if_neg (df h)).trans (if_neg (df h2))
theorem jadd_q {p : Jac} {q : Pt} (h : decide (q = (0, 0)) = true) : jadd p q = p := if_pos (dt h)
theorem jadd_p {p : Jac} {q : Pt} (h : decide (q = (0, 0)) = false) (h2 : decide (p.2.2 = 0) = true) : jadd p q = tojac q := (if_neg (df h)).trans (if_pos (dt h2))
theorem jadd_d {p : Jac} {q : Pt} (h : decide (q = (0, 0)) = false) (h2 : decide (p.2.2 = 0) = false) (h3 : decide (jaddH p q = 0) = true) (h4 : decide (jaddR p q = 0) = true) : jadd p q = jdbl p :=
  (if_neg (df h)).trans ((if_neg (df h2)).trans ((if_pos (dt h3)).trans (if_pos (dt h4))))
theorem jadd_o {p : Jac} {q : Pt} (h : decide (q = (0, 0)) = false) (h2 : decide (p.2.2 = 0) = false) (h3 : decide (jaddH p q = 0) = true) (h4 : decide (jaddR p q = 0) = false) : jadd p q = (0, 0, 0) :=
  (if_neg (df h)).trans ((if_neg (df h2)).trans ((if_pos (dt h3)).trans (if_neg (df h4))))
theorem jadd_n {p : Jac} {q : Pt} (h : decide (q = (0, 0)) = false) (h2 : decide (p.2.2 = 0) = false) (h3 : decide (jaddH p q = 0) = false) : jadd p q = jaddN p q :=
  (if_neg (df h)).trans ((if_neg (df h2)).trans (if_neg (df h3)))

theorem bld30 {x y : Fq} : BuildTo Tryd.prog 30 [(0, encF x), (1, encF y)] (encP (x, y)) := BuildTo.of fun _ => by kernel_rfl
theorem bld74 {x y z : Fq} : BuildTo Tryd.prog 74 [(0, encF x), (1, encF y), (2, encF z)] (encJ (x, y, z)) := BuildTo.of fun _ => by kernel_rfl
theorem bz30 : ZeroTo Tryd.prog 30 (encP (0, 0)) := ZeroTo.of fun _ => by kernel_rfl
theorem bz74 : ZeroTo Tryd.prog 74 (encJ (0, 0, 0)) := ZeroTo.of fun _ => by kernel_rfl
theorem en33 : Vm.Enters Tryd.prog 33 := Vm.Enters.of fun _ _ => by kernel_rfl
theorem en52 : Vm.Enters Tryd.prog 52 := Vm.Enters.of fun _ _ => by kernel_rfl
theorem en53 : Vm.Enters Tryd.prog 53 := Vm.Enters.of fun _ _ => by kernel_rfl
theorem en54 : Vm.Enters Tryd.prog 54 := Vm.Enters.of fun _ _ => by kernel_rfl
theorem en55 : Vm.Enters Tryd.prog 55 := Vm.Enters.of fun _ _ => by kernel_rfl
theorem en58 : Vm.Enters Tryd.prog 58 := Vm.Enters.of fun _ _ => by kernel_rfl
theorem en61 : Vm.Enters Tryd.prog 61 := Vm.Enters.of fun _ _ => by kernel_rfl
theorem en63 : Vm.Enters Tryd.prog 63 := Vm.Enters.of fun _ _ => by kernel_rfl
theorem en95 : Vm.Enters Tryd.prog 95 := Vm.Enters.of fun _ _ => by kernel_rfl
theorem en96 : Vm.Enters Tryd.prog 96 := Vm.Enters.of fun _ _ => by kernel_rfl
theorem en97 : Vm.Enters Tryd.prog 97 := Vm.Enters.of fun _ _ => by kernel_rfl
theorem fl30_0 : TyF Tryd.prog 30 0 0 6 := ⟨⟨28, by kernel_rfl, by kernel_rfl⟩, by decide⟩
theorem fl30_1 : TyF Tryd.prog 30 1 6 6 := ⟨⟨28, by kernel_rfl, by kernel_rfl⟩, by decide⟩
theorem fl74_0 : TyF Tryd.prog 74 0 0 6 := ⟨⟨28, by kernel_rfl, by kernel_rfl⟩, by decide⟩
theorem fl74_1 : TyF Tryd.prog 74 1 6 6 := ⟨⟨28, by kernel_rfl, by kernel_rfl⟩, by decide⟩
theorem fl74_2 : TyF Tryd.prog 74 2 12 6 := ⟨⟨28, by kernel_rfl, by kernel_rfl⟩, by decide⟩
theorem sz30 : sizeIn Tryd.prog 30 = some 12 := by kernel_rfl
theorem sz74 : sizeIn Tryd.prog 74 = some 18 := by kernel_rfl
theorem ty30 : TyA Tryd.prog 30 12 := ⟨by kernel_rfl, by kernel_rfl⟩
theorem ty74 : TyA Tryd.prog 74 18 := ⟨by kernel_rfl, by kernel_rfl⟩
theorem z30 : TyZ Tryd.prog 30 (.agg #[.int .u64 0, .int .u64 0, .int .u64 0, .int .u64 0, .int .u64 0, .int .u64 0, .int .u64 0, .int .u64 0, .int .u64 0, .int .u64 0, .int .u64 0, .int .u64 0]) [.int .u64 0, .int .u64 0, .int .u64 0, .int .u64 0, .int .u64 0, .int .u64 0, .int .u64 0, .int .u64 0, .int .u64 0, .int .u64 0, .int .u64 0, .int .u64 0] := ⟨fun _ => by kernel_rfl, by kernel_rfl⟩
theorem z74 : TyZ Tryd.prog 74 (.agg #[.int .u64 0, .int .u64 0, .int .u64 0, .int .u64 0, .int .u64 0, .int .u64 0, .int .u64 0, .int .u64 0, .int .u64 0, .int .u64 0, .int .u64 0, .int .u64 0, .int .u64 0, .int .u64 0, .int .u64 0, .int .u64 0, .int .u64 0, .int .u64 0]) [.int .u64 0, .int .u64 0, .int .u64 0, .int .u64 0, .int .u64 0, .int .u64 0, .int .u64 0, .int .u64 0, .int .u64 0, .int .u64 0, .int .u64 0, .int .u64 0, .int .u64 0, .int .u64 0, .int .u64 0, .int .u64 0, .int .u64 0, .int .u64 0] := ⟨fun _ => by kernel_rfl, by kernel_rfl⟩
theorem Inv_ok {x : Fq} {w : World} (hG : Blocks (GH T) w)  : Vm.Pure Tryd.prog 96 #[encF x] w (encF (inv x)) := by
  refine pure_of_W (n := 12) (args := [encF x]) Tryd.func96 rfl Tryd.ntmps96 (Nat.le_of_ble_eq_true rfl) hG ?_
  refine sStart ?_
  refine sSeq ?_
  refine W.region ?_
  refine OpsW.fresh (fr_box rfl rfl) rfl fun b1 => ?_
  refine OpsW.fresh (fr_alloc z28) rfl fun b2 => ?_
  refine sNext ?_
  refine W.keep (F' := [(2, _), (1, _)]) ⟨rfl, rfl, trivial⟩ ?_
  refine sSeq ?_
  refine W.region ?_
  refine OpsW.det (det_loadA_ro ty26 rfl (List.Mem.tail _ (List.Mem.tail _ (List.Mem.head _))) rfl) rfl ?_
  refine OpsW.fresh (fr_alloc z26) rfl fun b3 => ?_
  refine OpsW.store sz26 rfl rfl rfl rfl rfl (Upd.here) rfl ?_
  refine sNext ?_
  refine W.keep (F' := [(3, _), (2, _), (1, _)]) ⟨rfl, rfl, rfl, trivial⟩ ?_
  refine sSeq ?_
  refine W.region ?_
  refine OpsW.det (det_indexAddr_arr u26 sz25 rfl rfl ⟨by decide, by decide⟩) rfl ?_
  refine OpsW.det (det_loadC ty25 rfl (List.Mem.head _) rfl) rfl ?_
  refine OpsW.det ((det_sub (a := 13402431016077863595) (b := 2) rfl rfl).to (v := u64 13402431016077863593) (by kernel_rfl)) rfl ?_
  refine OpsW.det (det_indexAddr_arr u26 sz25 rfl rfl ⟨by decide, by decide⟩) rfl ?_
  refine OpsW.store sz25 rfl rfl rfl rfl rfl (Upd.here) rfl ?_
  refine sNext ?_
  refine W.keep (F' := [(3, _), (2, _), (1, _)]) ⟨rfl, rfl, rfl, trivial⟩ ?_
  refine sSeq ?_
  refine W.region ?_
  refine OpsW.det (det_loadA ty28 rfl (List.Mem.tail _ (List.Mem.tail _ (List.Mem.head _))) rfl) rfl ?_
  refine OpsW.det (det_loadA ty26 rfl (List.Mem.head _) rfl) rfl ?_
  refine OpsW.det (det_call en97 rfl (fun w hb ho => Inv_call ho.blocks)) rfl ?_
  refine OpsW.store sz28 rfl rfl rfl rfl rfl (Upd.there (Upd.here)) rfl ?_
  refine sNext ?_
  refine W.keep (F' := [(2, _)]) ⟨rfl, trivial⟩ ?_
  refine sRet ?_
  exact done1 Tryd.results96 (rv_cellA ty28 rfl (List.Mem.tail _ (List.Mem.head _)) rfl) rfl
theorem PNeg_ok {p : Pt} {w : World} (hG : Blocks (GH T) w)  : Vm.Pure Tryd.prog 22 #[encP p] w (encP (pneg p)) := by
  refine pure_of_W (n := 13) (args := [encP p]) Tryd.func22 rfl Tryd.ntmps22 (Nat.le_of_ble_eq_true rfl) hG ?_
  refine sStart ?_
  refine sSeq ?_
  refine W.region ?_
  refine OpsW.fresh (fr_box rfl rfl) rfl fun b1 => ?_
  refine OpsW.fresh (fr_alloc z30) rfl fun b2 => ?_
  refine sNext ?_
  refine W.keep (F' := [(2, _), (1, _)]) ⟨rfl, rfl, trivial⟩ ?_
  refine sSeq ?_
  refine sSeq ?_
  refine W.region ?_
  refine OpsW.det (det_loadA ty30 rfl (List.Mem.tail _ (List.Mem.head _)) rfl) rfl ?_
  refine OpsW.det (det_zero bz30) rfl ?_
  refine OpsW.det (det_eql30 rfl rfl) rfl ?_
  refine sNext ?_
  refine W.keep (F' := [(5, _), (2, _), (1, _)]) ⟨rfl, rfl, rfl, trivial⟩ ?_
  refine W.cond rfl (fun hc5 => ?_) (fun hc5 => ?_)
  · skip
    refine sSeq ?_
    refine W.region ?_
    refine OpsW.det (det_loadA ty30 rfl (List.Mem.tail _ (List.Mem.head _)) rfl) rfl ?_
    refine OpsW.store sz30 rfl rfl rfl rfl rfl (Upd.here) rfl ?_
    refine sNext ?_
    refine W.keep (F' := [(2, _)]) ⟨rfl, trivial⟩ ?_
    refine sRet ?_
    exact done1 Tryd.results22 (rv_cellA ty30 rfl (List.Mem.head _) rfl) (congrArg encP (pneg_yes hc5).symm)
  · skip
    refine sSkip ?_
    refine sSeq ?_
    refine W.draw mixed 6 [[], [0], [], [2], [2, 3], [0, 1, 2, 3, 4], [0, 1, 2, 3, 4, 5]] (cl_lt (by decide)) ?_
    refine HeadR.start (cl_lt (by decide)) ?_
    refine HeadR.det rfl (fun β hβ => (det_fieldAddr fl30_0 rfl)) ?_
    refine HeadR.det rfl (fun β hβ => (det_loadA ty28 rfl (List.Mem.tail _ (List.Mem.head _)) rfl)) ?_
    refine HeadR.det rfl (fun β hβ => (det_fieldAddr fl30_1 rfl)) ?_
    refine HeadR.det rfl (fun β hβ => (det_loadA ty28 rfl (List.Mem.tail _ (List.Mem.head _)) rfl)) ?_
    refine HeadR.det rfl (fun β hβ => (det_call en55 rfl (fun w hb ho => Cu.Neg_ok ho.blocks))) ?_
    refine HeadR.det rfl (fun β hβ => (det_build rfl bld30)) ?_
    refine HeadR.done ⟨by kernel_rfl, fun β hβ => ?_⟩
    refine OpsW.norm (F' := [(7, _), (8, _), (9, _), (10, _), (11, _), (12, _), (5, _), (2, _), (1, _)]) (H' := [(_, _), (_, _)]) rfl rfl ?_
    refine OpsW.store sz30 rfl rfl rfl rfl rfl (Upd.here) rfl ?_
    refine sNext ?_
    refine W.keep (F' := [(2, _)]) ⟨rfl, trivial⟩ ?_
    refine sRet ?_
    exact done1 Tryd.results22 (rv_cellA ty30 rfl (List.Mem.head _) rfl) (congrArg encP (pneg_no hc5).symm)
theorem POn_ok {p : Pt} {w : World} (hG : Blocks (GH T) w)  : Vm.Pure Tryd.prog 23 #[encP p] w (.bool (onB p)) := by
  refine pure_of_W (n := 20) (args := [encP p]) Tryd.func23 rfl Tryd.ntmps23 (Nat.le_of_ble_eq_true rfl) hG ?_
  refine sStart ?_
  refine sSeq ?_
  refine W.region ?_
  refine OpsW.fresh (fr_box rfl rfl) rfl fun b1 => ?_
  refine OpsW.det (det_assign rfl) rfl ?_
  refine sNext ?_
  refine W.keep (F' := [(1, _)]) ⟨rfl, trivial⟩ ?_
  refine sSeq ?_
  cases hp : decide (p = (0, 0))
  · skip
    refine W.draw mixed 18 [[], [], [0, 1], [0, 1, 2], [0, 1, 2, 3], [0, 1, 2, 3, 4], [0, 1, 2, 3, 4, 5], [0, 1, 2, 3], [0, 1, 2, 3, 7], [0, 1, 2, 3, 4, 5, 6, 7, 8], [0, 1, 2, 3], [0, 1, 2, 3, 10], [0, 1, 2, 3, 4, 5, 6, 7, 8, 9, 10, 11], [0, 1, 2, 3, 4, 5, 6, 7, 8, 9, 10, 11, 12], [0, 1, 2, 3, 4, 5, 6, 7, 8, 9, 10, 11, 12, 13], [0, 1, 2, 3, 4, 5, 6, 7, 8, 9, 10, 11, 12, 13, 14], [0, 1, 2, 3, 4, 5, 6, 7, 8, 9, 10, 11, 12, 13, 14, 15], [0, 1, 2, 3, 4, 5, 6, 7, 8, 9, 10, 11, 12, 13, 14, 15, 16]] (cl_lt (by decide)) ?_
    refine HeadR.start (cl_lt (by decide)) ?_
    refine HeadR.det rfl (fun β hβ => (det_loadA ty30 rfl (List.Mem.head _) rfl)) ?_
    refine HeadR.det rfl (fun β hβ => (det_zero bz30)) ?_
    refine HeadR.det rfl (fun β hβ => ((det_eql30 (a := p) rfl rfl).to (congrArg Value.bool hp))) ?_
    refine HeadR.det rfl (fun β hβ => (det_move rfl)) ?_
    refine HeadR.yes rfl rfl (fun _ _ => rfl) (fun β hβ => (det_fieldAddr fl30_1 rfl)) ?_
    refine HeadR.yes rfl rfl (fun _ _ => rfl) (fun β hβ => (det_loadA ty28 rfl (List.Mem.head _) rfl)) ?_
    refine HeadR.yes rfl rfl (fun _ _ => rfl) (fun β hβ => (det_call en56 rfl (fun w hb ho => Cu.Square_ok ho.blocks))) ?_
    refine HeadR.yes rfl rfl (fun _ _ => rfl) (fun β hβ => (det_fieldAddr fl30_0 rfl)) ?_
    refine HeadR.yes rfl rfl (fun _ _ => rfl) (fun β hβ => (det_loadA ty28 rfl (List.Mem.head _) rfl)) ?_
    refine HeadR.yes rfl rfl (fun _ _ => rfl) (fun β hβ => (det_call en56 rfl (fun w hb ho => Cu.Square_ok ho.blocks))) ?_
    refine HeadR.yes rfl rfl (fun _ _ => rfl) (fun β hβ => (det_fieldAddr fl30_0 rfl)) ?_
    refine HeadR.yes rfl rfl (fun _ _ => rfl) (fun β hβ => (det_loadA ty28 rfl (List.Mem.head _) rfl)) ?_
    refine HeadR.yes rfl rfl (fun _ _ => rfl) (fun β hβ => (det_call en57 rfl (fun w hb ho => Cu.Mul_ok ho.blocks))) ?_
    refine HeadR.yes rfl rfl (fun _ _ => rfl) (fun β hβ => (det_call en58 rfl (fun w hb ho => four_ok ho.blocks))) ?_
    refine HeadR.yes rfl rfl (fun _ _ => rfl) (fun β hβ => (det_call en33 rfl (fun w hb ho => Cu.Add_ok ho.blocks))) ?_
    refine HeadR.yes rfl rfl (fun _ _ => rfl) (fun β hβ => (det_eql28 rfl rfl)) ?_
    refine HeadR.det rfl (fun β hβ => (det_pick rfl rfl)) ?_
    refine HeadR.det rfl (fun β hβ => (det_assign rfl)) ?_
    refine HeadR.done ⟨by kernel_rfl, fun β hβ => ?_⟩
    refine OpsW.norm (F' := [(3, _), (4, _), (5, _), (6, _), (7, _), (8, _), (9, _), (10, _), (11, _), (12, _), (13, _), (14, _), (15, _), (16, _), (17, _), (18, _), (19, _), (2, _), (1, _)]) (H' := [(_, _)]) rfl rfl ?_
    refine sNext ?_
    refine W.keep (F' := [(2, _)]) ⟨rfl, trivial⟩ ?_
    refine sRet ?_
    exact done1 Tryd.results23 (rv_tmp rfl) (by rw [onB, hp]; rfl)
  · skip
    refine W.draw mixed 18 [[], [], [0, 1], [0, 1, 2], [0, 1, 2, 3], [0, 1, 2, 3, 4], [0, 1, 2, 3, 4, 5], [0, 1, 2, 3], [0, 1, 2, 3, 7], [0, 1, 2, 3, 4, 5, 6, 7, 8], [0, 1, 2, 3], [0, 1, 2, 3, 10], [0, 1, 2, 3, 4, 5, 6, 7, 8, 9, 10, 11], [0, 1, 2, 3, 4, 5, 6, 7, 8, 9, 10, 11, 12], [0, 1, 2, 3, 4, 5, 6, 7, 8, 9, 10, 11, 12, 13], [0, 1, 2, 3, 4, 5, 6, 7, 8, 9, 10, 11, 12, 13, 14], [0, 1, 2, 3, 4, 5, 6, 7, 8, 9, 10, 11, 12, 13, 14, 15], [0, 1, 2, 3, 4, 5, 6, 7, 8, 9, 10, 11, 12, 13, 14, 15, 16]] (cl_lt (by decide)) ?_
    refine HeadR.start (cl_lt (by decide)) ?_
    refine HeadR.det rfl (fun β hβ => (det_loadA ty30 rfl (List.Mem.head _) rfl)) ?_
    refine HeadR.det rfl (fun β hβ => (det_zero bz30)) ?_
    refine HeadR.det rfl (fun β hβ => ((det_eql30 (a := p) rfl rfl).to (congrArg Value.bool hp))) ?_
    refine HeadR.det rfl (fun β hβ => (det_move rfl)) ?_
    refine HeadR.no rfl rfl (fun _ _ => rfl) ?_
    refine HeadR.no rfl rfl (fun _ _ => rfl) ?_
    refine HeadR.no rfl rfl (fun _ _ => rfl) ?_
    refine HeadR.no rfl rfl (fun _ _ => rfl) ?_
    refine HeadR.no rfl rfl (fun _ _ => rfl) ?_
    refine HeadR.no rfl rfl (fun _ _ => rfl) ?_
    refine HeadR.no rfl rfl (fun _ _ => rfl) ?_
    refine HeadR.no rfl rfl (fun _ _ => rfl) ?_
    refine HeadR.no rfl rfl (fun _ _ => rfl) ?_
    refine HeadR.no rfl rfl (fun _ _ => rfl) ?_
    refine HeadR.no rfl rfl (fun _ _ => rfl) ?_
    refine HeadR.no rfl rfl (fun _ _ => rfl) ?_
    refine HeadR.det rfl (fun β hβ => (det_pick rfl rfl)) ?_
    refine HeadR.det rfl (fun β hβ => (det_assign rfl)) ?_
    refine HeadR.done ⟨by kernel_rfl, fun β hβ => ?_⟩
    refine OpsW.norm (F' := [(3, _), (4, _), (5, _), (6, _), (7, _), (8, _), (9, _), (10, _), (11, _), (12, _), (13, _), (14, _), (15, _), (16, _), (17, _), (18, _), (19, _), (2, _), (1, _)]) (H' := [(_, _)]) rfl rfl ?_
    refine sNext ?_
    refine W.keep (F' := [(2, _)]) ⟨rfl, trivial⟩ ?_
    refine sRet ?_
    exact done1 Tryd.results23 (rv_tmp rfl) (by rw [onB, hp]; rfl)
theorem tojac_ok {p : Pt} {w : World} (hG : Blocks (GH T) w)  : Vm.Pure Tryd.prog 52 #[encP p] w (encJ (tojac p)) := by
  refine pure_of_W (n := 13) (args := [encP p]) Tryd.func52 rfl Tryd.ntmps52 (Nat.le_of_ble_eq_true rfl) hG ?_
  refine sStart ?_
  refine sSeq ?_
  refine W.region ?_
  refine OpsW.fresh (fr_box rfl rfl) rfl fun b1 => ?_
  refine OpsW.fresh (fr_alloc z74) rfl fun b2 => ?_
  refine sNext ?_
  refine W.keep (F' := [(2, _), (1, _)]) ⟨rfl, rfl, trivial⟩ ?_
  refine sSeq ?_
  refine sSeq ?_
  refine W.region ?_
  refine OpsW.det (det_loadA ty30 rfl (List.Mem.tail _ (List.Mem.head _)) rfl) rfl ?_
  refine OpsW.det (det_zero bz30) rfl ?_
  refine OpsW.det (det_eql30 rfl rfl) rfl ?_
  refine sNext ?_
  refine W.keep (F' := [(5, _), (2, _), (1, _)]) ⟨rfl, rfl, rfl, trivial⟩ ?_
  refine W.cond rfl (fun hc5 => ?_) (fun hc5 => ?_)
  · skip
    refine sSeq ?_
    refine W.region ?_
    refine OpsW.det (det_zero bz74) rfl ?_
    refine OpsW.store sz74 rfl rfl rfl rfl rfl (Upd.here) rfl ?_
    refine sNext ?_
    refine W.keep (F' := [(2, _)]) ⟨rfl, trivial⟩ ?_
    refine sRet ?_
    exact done1 Tryd.results52 (rv_cellA ty74 rfl (List.Mem.head _) rfl) (congrArg encJ (tojac_yes hc5).symm)
  · skip
    refine sSkip ?_
    refine sSeq ?_
    refine W.draw mixed 6 [[], [0], [], [2], [], [0, 1, 2, 3, 4], [0, 1, 2, 3, 4, 5]] (cl_lt (by decide)) ?_
    refine HeadR.start (cl_lt (by decide)) ?_
    refine HeadR.det rfl (fun β hβ => (det_fieldAddr fl30_0 rfl)) ?_
    refine HeadR.det rfl (fun β hβ => (det_loadA ty28 rfl (List.Mem.tail _ (List.Mem.head _)) rfl)) ?_
    refine HeadR.det rfl (fun β hβ => (det_fieldAddr fl30_1 rfl)) ?_
    refine HeadR.det rfl (fun β hβ => (det_loadA ty28 rfl (List.Mem.tail _ (List.Mem.head _)) rfl)) ?_
    refine HeadR.det rfl (fun β hβ => (det_call en95 rfl (fun w hb ho => one_ok ho.blocks))) ?_
    refine HeadR.det rfl (fun β hβ => (det_build rfl bld74)) ?_
    refine HeadR.done ⟨by kernel_rfl, fun β hβ => ?_⟩
    refine OpsW.norm (F' := [(7, _), (8, _), (9, _), (10, _), (11, _), (12, _), (5, _), (2, _), (1, _)]) (H' := [(_, _), (_, _)]) rfl rfl ?_
    refine OpsW.store sz74 rfl rfl rfl rfl rfl (Upd.here) rfl ?_
    refine sNext ?_
    refine W.keep (F' := [(2, _)]) ⟨rfl, trivial⟩ ?_
    refine sRet ?_
    exact done1 Tryd.results52 (rv_cellA ty74 rfl (List.Mem.head _) rfl) (congrArg encJ (tojac_no hc5).symm)
theorem jdbl_ok {p : Jac} {w : World} (hG : Blocks (GH T) w)  : Vm.Pure Tryd.prog 63 #[encJ p] w (encJ (jdbl p)) := by
  refine pure_of_W (n := 75) (args := [encJ p]) Tryd.func63 rfl Tryd.ntmps63 (Nat.le_of_ble_eq_true rfl) hG ?_
  refine sStart ?_
  refine sSeq ?_
  refine W.region ?_
  refine OpsW.fresh (fr_box rfl rfl) rfl fun b1 => ?_
  refine OpsW.fresh (fr_alloc z74) rfl fun b2 => ?_
  refine sNext ?_
  refine W.keep (F' := [(2, _), (1, _)]) ⟨rfl, rfl, trivial⟩ ?_
  refine sSeq ?_
  refine sSeq ?_
  refine W.region ?_
  refine OpsW.det (det_fieldAddr fl74_2 rfl) rfl ?_
  refine OpsW.det (det_loadA ty28 rfl (List.Mem.tail _ (List.Mem.head _)) rfl) rfl ?_
  refine OpsW.test (det_call en61 rfl (fun w hb ho => Cu.Zero_ok ho.blocks)) rfl (fun hc12 => ?_) (fun hc12 => ?_)
  · skip
    refine OpsW.det (det_move rfl) rfl ?_
    refine OpsW.guard_no rfl rfl rfl ?_
    refine OpsW.guard_no rfl rfl rfl ?_
    refine OpsW.guard_no rfl rfl rfl ?_
    refine OpsW.det (det_pick rfl rfl) rfl ?_
    refine sNext ?_
    refine W.keep (F' := [(17, _), (2, _), (1, _)]) ⟨rfl, rfl, rfl, trivial⟩ ?_
    refine W.cond_true rfl ?_
    refine sSeq ?_
    refine W.region ?_
    refine OpsW.det (det_zero bz74) rfl ?_
    refine OpsW.store sz74 rfl rfl rfl rfl rfl (Upd.here) rfl ?_
    refine sNext ?_
    refine W.keep (F' := [(2, _)]) ⟨rfl, trivial⟩ ?_
    refine sRet ?_
    exact done1 Tryd.results63 (rv_cellA ty74 rfl (List.Mem.head _) rfl) (congrArg encJ (jdbl_z hc12).symm)
  · skip
    refine OpsW.det (det_move rfl) rfl ?_
    refine OpsW.guard_yes rfl rfl ?_
    refine OpsW.det (det_fieldAddr fl74_1 rfl) rfl ?_
    refine OpsW.guard_yes rfl rfl ?_
    refine OpsW.det (det_loadA ty28 rfl (List.Mem.tail _ (List.Mem.head _)) rfl) rfl ?_
    refine OpsW.guard_yes rfl rfl ?_
    refine OpsW.det (det_call en61 rfl (fun w hb ho => Cu.Zero_ok ho.blocks)) rfl ?_
    refine OpsW.det (det_pick rfl rfl) rfl ?_
    refine sNext ?_
    refine W.keep (F' := [(17, _), (2, _), (1, _)]) ⟨rfl, rfl, rfl, trivial⟩ ?_
    refine W.cond rfl (fun hc17 => ?_) (fun hc17 => ?_)
    · skip
      refine sSeq ?_
      refine W.region ?_
      refine OpsW.det (det_zero bz74) rfl ?_
      refine OpsW.store sz74 rfl rfl rfl rfl rfl (Upd.here) rfl ?_
      refine sNext ?_
      refine W.keep (F' := [(2, _)]) ⟨rfl, trivial⟩ ?_
      refine sRet ?_
      exact done1 Tryd.results63 (rv_cellA ty74 rfl (List.Mem.head _) rfl) (congrArg encJ (jdbl_y hc12 hc17).symm)
    · skip
      refine sSkip ?_
      refine sSeq ?_
      refine W.draw mixed 8 [[], [0], [0, 1], [], [3], [0, 1, 2, 3, 4], [], [], [0, 1, 2, 3, 4, 5, 6, 7], [0, 1, 2, 3, 4, 5, 6, 7, 8]] (cl_lt (by decide)) ?_
      refine HeadR.start (cl_lt (by decide)) ?_
      refine HeadR.det rfl (fun β hβ => (det_fieldAddr fl74_0 rfl)) ?_
      refine HeadR.det rfl (fun β hβ => (det_loadA ty28 rfl (List.Mem.tail _ (List.Mem.head _)) rfl)) ?_
      refine HeadR.det rfl (fun β hβ => (det_call en56 rfl (fun w hb ho => Cu.Square_ok ho.blocks))) ?_
      refine HeadR.det rfl (fun β hβ => (det_fieldAddr fl74_1 rfl)) ?_
      refine HeadR.det rfl (fun β hβ => (det_loadA ty28 rfl (List.Mem.tail _ (List.Mem.head _)) rfl)) ?_
      refine HeadR.det rfl (fun β hβ => (det_call en56 rfl (fun w hb ho => Cu.Square_ok ho.blocks))) ?_
      refine HeadR.fresh rfl (fun β hβ => (fr_alloc z28).new) ?_
      refine HeadR.fresh rfl (fun β hβ => (fr_alloc z28).new) ?_
      refine HeadR.done ⟨by kernel_rfl, fun β hβ => ?_⟩
      refine OpsW.norm (F' := [(19, _), (20, _), (21, _), (22, _), (23, _), (24, _), (3, .pointer (some ⟨(β 3).1, 0, none⟩)), (4, .pointer (some ⟨(β 4).1, 0, none⟩)), (17, _), (2, _), (1, _)]) (H' := [(_, _), (_, _), (_, _), (_, _)]) rfl rfl ?_
      generalize (β 3).1 = b3
      generalize (β 4).1 = b4
      refine OpsW.store sz28 rfl rfl rfl rfl rfl (Upd.here) rfl ?_
      refine OpsW.store sz28 rfl rfl rfl rfl rfl (Upd.there (Upd.here)) rfl ?_
      refine sNext ?_
      refine W.keep (F' := [(3, _), (4, _), (2, _), (1, _)]) ⟨rfl, rfl, rfl, rfl, trivial⟩ ?_
      refine sSeq ?_
      refine W.region ?_
      refine OpsW.det (det_loadA ty28 rfl (List.Mem.tail _ (List.Mem.head _)) rfl) rfl ?_
      refine OpsW.det (det_call en56 rfl (fun w hb ho => Cu.Square_ok ho.blocks)) rfl ?_
      refine OpsW.fresh (fr_alloc z28) rfl fun b5 => ?_
      refine OpsW.store sz28 rfl rfl rfl rfl rfl (Upd.here) rfl ?_
      refine sNext ?_
      refine W.keep (F' := [(5, _), (3, _), (4, _), (2, _), (1, _)]) ⟨rfl, rfl, rfl, rfl, rfl, trivial⟩ ?_
      refine sSeq ?_
      refine W.draw mixed 10 [[], [0], [], [0, 1, 2], [0, 1, 2, 3], [], [0, 1, 2, 3, 4, 5], [], [0, 1, 2, 3, 4, 5, 6, 7], [], [0, 1, 2, 3, 4, 5, 6, 7, 8, 9]] (cl_lt (by decide)) ?_
      refine HeadR.start (cl_lt (by decide)) ?_
      refine HeadR.det rfl (fun β hβ => (det_fieldAddr fl74_0 rfl)) ?_
      refine HeadR.det rfl (fun β hβ => (det_loadA ty28 rfl (List.Mem.tail _ (List.Mem.tail _ (List.Mem.tail _ (List.Mem.tail _ (List.Mem.head _))))) rfl)) ?_
      refine HeadR.det rfl (fun β hβ => (det_loadA ty28 rfl (List.Mem.tail _ (List.Mem.tail _ (List.Mem.head _))) rfl)) ?_
      refine HeadR.det rfl (fun β hβ => (det_call en33 rfl (fun w hb ho => Cu.Add_ok ho.blocks))) ?_
      refine HeadR.det rfl (fun β hβ => (det_call en56 rfl (fun w hb ho => Cu.Square_ok ho.blocks))) ?_
      refine HeadR.det rfl (fun β hβ => (det_loadA ty28 rfl (List.Mem.tail _ (List.Mem.head _)) rfl)) ?_
      refine HeadR.det rfl (fun β hβ => (det_call en67 rfl (fun w hb ho => Cu.Sub_ok ho.blocks))) ?_
      refine HeadR.det rfl (fun β hβ => (det_loadA ty28 rfl (List.Mem.head _) rfl)) ?_
      refine HeadR.det rfl (fun β hβ => (det_call en67 rfl (fun w hb ho => Cu.Sub_ok ho.blocks))) ?_
      refine HeadR.fresh rfl (fun β hβ => (fr_alloc z28).new) ?_
      refine HeadR.done ⟨by kernel_rfl, fun β hβ => ?_⟩
      refine OpsW.norm (F' := [(27, _), (28, _), (29, _), (30, _), (31, _), (32, _), (33, _), (34, _), (35, _), (6, .pointer (some ⟨(β 6).1, 0, none⟩)), (5, _), (3, _), (4, _), (2, _), (1, _)]) (H' := [(_, _), (_, _), (_, _), (_, _), (_, _), (_, _)]) rfl rfl ?_
      generalize (β 6).1 = b6
      refine OpsW.store sz28 rfl rfl rfl rfl rfl (Upd.here) rfl ?_
      refine sNext ?_
      refine W.keep (F' := [(6, _), (5, _), (3, _), (2, _), (1, _)]) ⟨rfl, rfl, rfl, rfl, rfl, trivial⟩ ?_
      refine sSeq ?_
      refine W.region ?_
      refine OpsW.det (det_loadA ty28 rfl (List.Mem.head _) rfl) rfl ?_
      refine OpsW.det (det_loadA ty28 rfl (List.Mem.head _) rfl) rfl ?_
      refine OpsW.det (det_call en33 rfl (fun w hb ho => Cu.Add_ok ho.blocks)) rfl ?_
      refine OpsW.store sz28 rfl rfl rfl rfl rfl (Upd.here) rfl ?_
      refine sNext ?_
      refine W.keep (F' := [(6, _), (5, _), (3, _), (2, _), (1, _)]) ⟨rfl, rfl, rfl, rfl, rfl, trivial⟩ ?_
      refine sSeq ?_
      refine W.draw mixed 6 [[], [], [0, 1], [], [0, 1, 2, 3], [], [0, 1, 2, 3, 4, 5]] (cl_lt (by decide)) ?_
      refine HeadR.start (cl_lt (by decide)) ?_
      refine HeadR.det rfl (fun β hβ => (det_loadA ty28 rfl (List.Mem.tail _ (List.Mem.tail _ (List.Mem.head _))) rfl)) ?_
      refine HeadR.det rfl (fun β hβ => (det_loadA ty28 rfl (List.Mem.tail _ (List.Mem.tail _ (List.Mem.head _))) rfl)) ?_
      refine HeadR.det rfl (fun β hβ => (det_call en33 rfl (fun w hb ho => Cu.Add_ok ho.blocks))) ?_
      refine HeadR.det rfl (fun β hβ => (det_loadA ty28 rfl (List.Mem.tail _ (List.Mem.tail _ (List.Mem.head _))) rfl)) ?_
      refine HeadR.det rfl (fun β hβ => (det_call en33 rfl (fun w hb ho => Cu.Add_ok ho.blocks))) ?_
      refine HeadR.fresh rfl (fun β hβ => (fr_alloc z28).new) ?_
      refine HeadR.done ⟨by kernel_rfl, fun β hβ => ?_⟩
      refine OpsW.norm (F' := [(39, _), (40, _), (41, _), (42, _), (43, _), (7, .pointer (some ⟨(β 7).1, 0, none⟩)), (6, _), (5, _), (3, _), (2, _), (1, _)]) (H' := [(_, _), (_, _), (_, _), (_, _), (_, _), (_, _), (_, _)]) rfl rfl ?_
      generalize (β 7).1 = b7
      refine OpsW.store sz28 rfl rfl rfl rfl rfl (Upd.here) rfl ?_
      refine sNext ?_
      refine W.keep (F' := [(7, _), (6, _), (5, _), (2, _), (1, _)]) ⟨rfl, rfl, rfl, rfl, rfl, trivial⟩ ?_
      refine sSeq ?_
      refine W.draw mixed 7 [[], [0], [], [0, 1, 2], [], [0, 1, 2, 3, 4], [], [0, 1, 2, 3, 4, 5, 6]] (cl_lt (by decide)) ?_
      refine HeadR.start (cl_lt (by decide)) ?_
      refine HeadR.det rfl (fun β hβ => (det_loadA ty28 rfl (List.Mem.head _) rfl)) ?_
      refine HeadR.det rfl (fun β hβ => (det_call en56 rfl (fun w hb ho => Cu.Square_ok ho.blocks))) ?_
      refine HeadR.det rfl (fun β hβ => (det_loadA ty28 rfl (List.Mem.tail _ (List.Mem.head _)) rfl)) ?_
      refine HeadR.det rfl (fun β hβ => (det_call en67 rfl (fun w hb ho => Cu.Sub_ok ho.blocks))) ?_
      refine HeadR.det rfl (fun β hβ => (det_loadA ty28 rfl (List.Mem.tail _ (List.Mem.head _)) rfl)) ?_
      refine HeadR.det rfl (fun β hβ => (det_call en67 rfl (fun w hb ho => Cu.Sub_ok ho.blocks))) ?_
      refine HeadR.fresh rfl (fun β hβ => (fr_alloc z28).new) ?_
      refine HeadR.done ⟨by kernel_rfl, fun β hβ => ?_⟩
      refine OpsW.norm (F' := [(44, _), (45, _), (46, _), (47, _), (48, _), (49, _), (8, .pointer (some ⟨(β 8).1, 0, none⟩)), (7, _), (6, _), (5, _), (2, _), (1, _)]) (H' := [(_, _), (_, _), (_, _), (_, _), (_, _), (_, _), (_, _), (_, _)]) rfl rfl ?_
      generalize (β 8).1 = b8
      refine OpsW.store sz28 rfl rfl rfl rfl rfl (Upd.here) rfl ?_
      refine sNext ?_
      refine W.keep (F' := [(8, _), (7, _), (6, _), (5, _), (2, _), (1, _)]) ⟨rfl, rfl, rfl, rfl, rfl, rfl, trivial⟩ ?_
      refine sSeq ?_
      refine W.region ?_
      refine OpsW.det (det_loadA ty28 rfl (List.Mem.tail _ (List.Mem.tail _ (List.Mem.tail _ (List.Mem.head _)))) rfl) rfl ?_
      refine OpsW.det (det_loadA ty28 rfl (List.Mem.tail _ (List.Mem.tail _ (List.Mem.tail _ (List.Mem.head _)))) rfl) rfl ?_
      refine OpsW.det (det_call en33 rfl (fun w hb ho => Cu.Add_ok ho.blocks)) rfl ?_
      refine OpsW.store sz28 rfl rfl rfl rfl rfl (Upd.there (Upd.there (Upd.there (Upd.here)))) rfl ?_
      refine sNext ?_
      refine W.keep (F' := [(8, _), (7, _), (6, _), (5, _), (2, _), (1, _)]) ⟨rfl, rfl, rfl, rfl, rfl, rfl, trivial⟩ ?_
      refine sSeq ?_
      refine W.region ?_
      refine OpsW.det (det_loadA ty28 rfl (List.Mem.tail _ (List.Mem.tail _ (List.Mem.tail _ (List.Mem.head _)))) rfl) rfl ?_
      refine OpsW.det (det_loadA ty28 rfl (List.Mem.tail _ (List.Mem.tail _ (List.Mem.tail _ (List.Mem.head _)))) rfl) rfl ?_
      refine OpsW.det (det_call en33 rfl (fun w hb ho => Cu.Add_ok ho.blocks)) rfl ?_
      refine OpsW.store sz28 rfl rfl rfl rfl rfl (Upd.there (Upd.there (Upd.there (Upd.here)))) rfl ?_
      refine sNext ?_
      refine W.keep (F' := [(8, _), (7, _), (6, _), (5, _), (2, _), (1, _)]) ⟨rfl, rfl, rfl, rfl, rfl, rfl, trivial⟩ ?_
      refine sSeq ?_
      refine W.region ?_
      refine OpsW.det (det_fieldAddr fl74_1 rfl) rfl ?_
      refine OpsW.det (det_loadA ty28 rfl (List.Mem.tail _ (List.Mem.tail _ (List.Mem.tail _ (List.Mem.tail _ (List.Mem.tail _ (List.Mem.tail _ (List.Mem.tail _ (List.Mem.head _)))))))) rfl) rfl ?_
      refine OpsW.det (det_fieldAddr fl74_2 rfl) rfl ?_
      refine OpsW.det (det_loadA ty28 rfl (List.Mem.tail _ (List.Mem.tail _ (List.Mem.tail _ (List.Mem.tail _ (List.Mem.tail _ (List.Mem.tail _ (List.Mem.tail _ (List.Mem.head _)))))))) rfl) rfl ?_
      refine OpsW.det (det_call en57 rfl (fun w hb ho => Cu.Mul_ok ho.blocks)) rfl ?_
      refine OpsW.fresh (fr_alloc z28) rfl fun b9 => ?_
      refine OpsW.store sz28 rfl rfl rfl rfl rfl (Upd.here) rfl ?_
      refine sNext ?_
      refine W.keep (F' := [(9, _), (8, _), (7, _), (6, _), (5, _), (2, _)]) ⟨rfl, rfl, rfl, rfl, rfl, rfl, trivial⟩ ?_
      refine sSeq ?_
      refine W.draw mixed 14 [[], [], [], [], [2, 3], [1, 2, 3, 4], [], [1, 2, 3, 4, 5, 6], [], [1, 2, 3, 4, 5, 6, 7, 8], [], [], [1, 2, 3, 4, 5, 6, 7, 8, 9, 10, 11], [0, 1, 2, 3, 4, 5, 6, 7, 8, 9, 10, 11, 12], [0, 1, 2, 3, 4, 5, 6, 7, 8, 9, 10, 11, 12, 13]] (cl_lt (by decide)) ?_
      refine HeadR.start (cl_lt (by decide)) ?_
      refine HeadR.det rfl (fun β hβ => (det_loadA ty28 rfl (List.Mem.tail _ (List.Mem.head _)) rfl)) ?_
      refine HeadR.det rfl (fun β hβ => (det_loadA ty28 rfl (List.Mem.tail _ (List.Mem.tail _ (List.Mem.head _))) rfl)) ?_
      refine HeadR.det rfl (fun β hβ => (det_loadA ty28 rfl (List.Mem.tail _ (List.Mem.tail _ (List.Mem.tail _ (List.Mem.head _)))) rfl)) ?_
      refine HeadR.det rfl (fun β hβ => (det_loadA ty28 rfl (List.Mem.tail _ (List.Mem.head _)) rfl)) ?_
      refine HeadR.det rfl (fun β hβ => (det_call en67 rfl (fun w hb ho => Cu.Sub_ok ho.blocks))) ?_
      refine HeadR.det rfl (fun β hβ => (det_call en57 rfl (fun w hb ho => Cu.Mul_ok ho.blocks))) ?_
      refine HeadR.det rfl (fun β hβ => (det_loadA ty28 rfl (List.Mem.tail _ (List.Mem.tail _ (List.Mem.tail _ (List.Mem.tail _ (List.Mem.head _))))) rfl)) ?_
      refine HeadR.det rfl (fun β hβ => (det_call en67 rfl (fun w hb ho => Cu.Sub_ok ho.blocks))) ?_
      refine HeadR.det rfl (fun β hβ => (det_loadA ty28 rfl (List.Mem.tail _ (List.Mem.tail _ (List.Mem.tail _ (List.Mem.tail _ (List.Mem.head _))))) rfl)) ?_
      refine HeadR.det rfl (fun β hβ => (det_call en67 rfl (fun w hb ho => Cu.Sub_ok ho.blocks))) ?_
      refine HeadR.det rfl (fun β hβ => (det_loadA ty28 rfl (List.Mem.head _) rfl)) ?_
      refine HeadR.det rfl (fun β hβ => (det_loadA ty28 rfl (List.Mem.head _) rfl)) ?_
      refine HeadR.det rfl (fun β hβ => (det_call en33 rfl (fun w hb ho => Cu.Add_ok ho.blocks))) ?_
      refine HeadR.det rfl (fun β hβ => (det_build rfl bld74)) ?_
      refine HeadR.done ⟨by kernel_rfl, fun β hβ => ?_⟩
      refine OpsW.norm (F' := [(61, _), (62, _), (63, _), (64, _), (65, _), (66, _), (67, _), (68, _), (69, _), (70, _), (71, _), (72, _), (73, _), (74, _), (9, _), (8, _), (7, _), (6, _), (5, _), (2, _)]) (H' := [(_, _), (_, _), (_, _), (_, _), (_, _), (_, _), (_, _), (_, _), (_, _)]) rfl rfl ?_
      refine OpsW.store sz74 rfl rfl rfl rfl rfl (Upd.there (Upd.there (Upd.there (Upd.there (Upd.there (Upd.there (Upd.there (Upd.here)))))))) rfl ?_
      refine sNext ?_
      refine W.keep (F' := [(2, _)]) ⟨rfl, trivial⟩ ?_
      refine sRet ?_
      exact done1 Tryd.results63 (rv_cellA ty74 rfl (List.Mem.tail _ (List.Mem.tail _ (List.Mem.tail _ (List.Mem.tail _ (List.Mem.tail _ (List.Mem.tail _ (List.Mem.tail _ (List.Mem.head _)))))))) rfl) (congrArg encJ (jdbl_no hc12 hc17).symm)
theorem point_ok {p : Jac} {w : World} (hG : Blocks (GH T) w)  : Vm.Pure Tryd.prog 54 #[encJ p] w (encP (point p)) := by
  refine pure_of_W (n := 25) (args := [encJ p]) Tryd.func54 rfl Tryd.ntmps54 (Nat.le_of_ble_eq_true rfl) hG ?_
  refine sStart ?_
  refine sSeq ?_
  refine W.region ?_
  refine OpsW.fresh (fr_box rfl rfl) rfl fun b1 => ?_
  refine OpsW.fresh (fr_alloc z30) rfl fun b2 => ?_
  refine sNext ?_
  refine W.keep (F' := [(2, _), (1, _)]) ⟨rfl, rfl, trivial⟩ ?_
  refine sSeq ?_
  refine sSeq ?_
  refine W.region ?_
  refine OpsW.det (det_fieldAddr fl74_2 rfl) rfl ?_
  refine OpsW.det (det_loadA ty28 rfl (List.Mem.tail _ (List.Mem.head _)) rfl) rfl ?_
  refine OpsW.det (det_call en61 rfl (fun w hb ho => Cu.Zero_ok ho.blocks)) rfl ?_
  refine sNext ?_
  refine W.keep (F' := [(7, _), (2, _), (1, _)]) ⟨rfl, rfl, rfl, trivial⟩ ?_
  refine W.cond rfl (fun hc7 => ?_) (fun hc7 => ?_)
  · skip
    refine sSeq ?_
    refine W.region ?_
    refine OpsW.det (det_zero bz30) rfl ?_
    refine OpsW.store sz30 rfl rfl rfl rfl rfl (Upd.here) rfl ?_
    refine sNext ?_
    refine W.keep (F' := [(2, _)]) ⟨rfl, trivial⟩ ?_
    refine sRet ?_
    exact done1 Tryd.results54 (rv_cellA ty30 rfl (List.Mem.head _) rfl) (congrArg encP (point_yes hc7).symm)
  · skip
    refine sSkip ?_
    refine sSeq ?_
    refine W.region ?_
    refine OpsW.det (det_fieldAddr fl74_2 rfl) rfl ?_
    refine OpsW.det (det_loadA ty28 rfl (List.Mem.tail _ (List.Mem.head _)) rfl) rfl ?_
    refine OpsW.det (det_call en96 rfl (fun w hb ho => Cu.Inv_ok ho.blocks)) rfl ?_
    refine OpsW.fresh (fr_alloc z28) rfl fun b3 => ?_
    refine OpsW.store sz28 rfl rfl rfl rfl rfl (Upd.here) rfl ?_
    refine sNext ?_
    refine W.keep (F' := [(3, _), (2, _), (1, _)]) ⟨rfl, rfl, rfl, trivial⟩ ?_
    refine sSeq ?_
    refine W.region ?_
    refine OpsW.det (det_loadA ty28 rfl (List.Mem.head _) rfl) rfl ?_
    refine OpsW.det (det_call en56 rfl (fun w hb ho => Cu.Square_ok ho.blocks)) rfl ?_
    refine OpsW.fresh (fr_alloc z28) rfl fun b4 => ?_
    refine OpsW.store sz28 rfl rfl rfl rfl rfl (Upd.here) rfl ?_
    refine sNext ?_
    refine W.keep (F' := [(4, _), (3, _), (2, _), (1, _)]) ⟨rfl, rfl, rfl, rfl, trivial⟩ ?_
    refine sSeq ?_
    refine W.draw mixed 11 [[], [0], [], [0, 1, 2], [], [4], [], [0, 1, 2, 3, 4, 5, 6], [], [0, 1, 2, 3, 4, 5, 6, 7, 8], [0, 1, 2, 3, 4, 5, 6, 7, 8, 9], [0, 1, 2, 3, 4, 5, 6, 7, 8, 9, 10]] (cl_lt (by decide)) ?_
    refine HeadR.start (cl_lt (by decide)) ?_
    refine HeadR.det rfl (fun β hβ => (det_fieldAddr fl74_0 rfl)) ?_
    refine HeadR.det rfl (fun β hβ => (det_loadA ty28 rfl (List.Mem.tail _ (List.Mem.tail _ (List.Mem.tail _ (List.Mem.head _)))) rfl)) ?_
    refine HeadR.det rfl (fun β hβ => (det_loadA ty28 rfl (List.Mem.head _) rfl)) ?_
    refine HeadR.det rfl (fun β hβ => (det_call en57 rfl (fun w hb ho => Cu.Mul_ok ho.blocks))) ?_
    refine HeadR.det rfl (fun β hβ => (det_fieldAddr fl74_1 rfl)) ?_
    refine HeadR.det rfl (fun β hβ => (det_loadA ty28 rfl (List.Mem.tail _ (List.Mem.tail _ (List.Mem.tail _ (List.Mem.head _)))) rfl)) ?_
    refine HeadR.det rfl (fun β hβ => (det_loadA ty28 rfl (List.Mem.head _) rfl)) ?_
    refine HeadR.det rfl (fun β hβ => (det_call en57 rfl (fun w hb ho => Cu.Mul_ok ho.blocks))) ?_
    refine HeadR.det rfl (fun β hβ => (det_loadA ty28 rfl (List.Mem.tail _ (List.Mem.head _)) rfl)) ?_
    refine HeadR.det rfl (fun β hβ => (det_call en57 rfl (fun w hb ho => Cu.Mul_ok ho.blocks))) ?_
    refine HeadR.det rfl (fun β hβ => (det_build rfl bld30)) ?_
    refine HeadR.done ⟨by kernel_rfl, fun β hβ => ?_⟩
    refine OpsW.norm (F' := [(14, _), (15, _), (16, _), (17, _), (18, _), (19, _), (20, _), (21, _), (22, _), (23, _), (24, _), (4, _), (3, _), (2, _), (1, _)]) (H' := [(_, _), (_, _), (_, _), (_, _)]) rfl rfl ?_
    refine OpsW.store sz30 rfl rfl rfl rfl rfl (Upd.there (Upd.there (Upd.here))) rfl ?_
    refine sNext ?_
    refine W.keep (F' := [(2, _)]) ⟨rfl, trivial⟩ ?_
    refine sRet ?_
    exact done1 Tryd.results54 (rv_cellA ty30 rfl (List.Mem.tail _ (List.Mem.tail _ (List.Mem.head _))) rfl) (congrArg encP (point_no hc7).symm)
theorem jadd_ok {p : Jac} {q : Pt} {w : World} (hG : Blocks (GH T) w)  : Vm.Pure Tryd.prog 53 #[encJ p, encP q] w (encJ (jadd p q)) := by
  refine pure_of_W (n := 100) (args := [encJ p, encP q]) Tryd.func53 rfl Tryd.ntmps53 (Nat.le_of_ble_eq_true rfl) hG ?_
  refine sStart ?_
  refine sSeq ?_
  refine W.region ?_
  refine OpsW.fresh (fr_box rfl rfl) rfl fun b2 => ?_
  refine OpsW.fresh (fr_box rfl rfl) rfl fun b3 => ?_
  refine OpsW.fresh (fr_alloc z74) rfl fun b4 => ?_
  refine sNext ?_
  refine W.keep (F' := [(4, _), (3, _), (2, _)]) ⟨rfl, rfl, rfl, trivial⟩ ?_
  refine sSeq ?_
  refine sSeq ?_
  refine W.region ?_
  refine OpsW.det (det_loadA ty30 rfl (List.Mem.tail _ (List.Mem.head _)) rfl) rfl ?_
  refine OpsW.det (det_zero bz30) rfl ?_
  refine OpsW.det (det_eql30 rfl rfl) rfl ?_
  refine sNext ?_
  refine W.keep (F' := [(16, _), (4, _), (3, _), (2, _)]) ⟨rfl, rfl, rfl, rfl, trivial⟩ ?_
  refine W.cond rfl (fun hc16 => ?_) (fun hc16 => ?_)
  · skip
    refine sSeq ?_
    refine W.region ?_
    refine OpsW.det (det_loadA ty74 rfl (List.Mem.tail _ (List.Mem.tail _ (List.Mem.head _))) rfl) rfl ?_
    refine OpsW.store sz74 rfl rfl rfl rfl rfl (Upd.here) rfl ?_
    refine sNext ?_
    refine W.keep (F' := [(4, _)]) ⟨rfl, trivial⟩ ?_
    refine sRet ?_
    exact done1 Tryd.results53 (rv_cellA ty74 rfl (List.Mem.head _) rfl) (congrArg encJ (jadd_q hc16).symm)
  · skip
    refine sSkip ?_
    refine sSeq ?_
    refine sSeq ?_
    refine W.region ?_
    refine OpsW.det (det_fieldAddr fl74_2 rfl) rfl ?_
    refine OpsW.det (det_loadA ty28 rfl (List.Mem.tail _ (List.Mem.tail _ (List.Mem.head _))) rfl) rfl ?_
    refine OpsW.det (det_call en61 rfl (fun w hb ho => Cu.Zero_ok ho.blocks)) rfl ?_
    refine sNext ?_
    refine W.keep (F' := [(20, _), (4, _), (3, _), (2, _)]) ⟨rfl, rfl, rfl, rfl, trivial⟩ ?_
    refine W.cond rfl (fun hc20 => ?_) (fun hc20 => ?_)
    · skip
      refine sSeq ?_
      refine W.region ?_
      refine OpsW.det (det_loadA ty30 rfl (List.Mem.tail _ (List.Mem.head _)) rfl) rfl ?_
      refine OpsW.det (det_call en52 rfl (fun w hb ho => tojac_ok ho.blocks)) rfl ?_
      refine OpsW.store sz74 rfl rfl rfl rfl rfl (Upd.here) rfl ?_
      refine sNext ?_
      refine W.keep (F' := [(4, _)]) ⟨rfl, trivial⟩ ?_
      refine sRet ?_
      exact done1 Tryd.results53 (rv_cellA ty74 rfl (List.Mem.head _) rfl) (congrArg encJ (jadd_p hc16 hc20).symm)
    · skip
      refine sSkip ?_
      refine sSeq ?_
      refine W.region ?_
      refine OpsW.det (det_fieldAddr fl74_2 rfl) rfl ?_
      refine OpsW.det (det_loadA ty28 rfl (List.Mem.tail _ (List.Mem.tail _ (List.Mem.head _))) rfl) rfl ?_
      refine OpsW.det (det_call en56 rfl (fun w hb ho => Cu.Square_ok ho.blocks)) rfl ?_
      refine OpsW.fresh (fr_alloc z28) rfl fun b5 => ?_
      refine OpsW.store sz28 rfl rfl rfl rfl rfl (Upd.here) rfl ?_
      refine sNext ?_
      refine W.keep (F' := [(5, _), (4, _), (3, _), (2, _)]) ⟨rfl, rfl, rfl, rfl, trivial⟩ ?_
      refine sSeq ?_
      refine W.draw mixed 8 [[], [0], [], [0, 1, 2], [], [4], [0, 1, 2, 3, 4, 5], [], [0, 1, 2, 3, 4, 5, 6, 7]] (cl_lt (by decide)) ?_
      refine HeadR.start (cl_lt (by decide)) ?_
      refine HeadR.det rfl (fun β hβ => (det_fieldAddr fl30_0 rfl)) ?_
      refine HeadR.det rfl (fun β hβ => (det_loadA ty28 rfl (List.Mem.tail _ (List.Mem.tail _ (List.Mem.head _))) rfl)) ?_
      refine HeadR.det rfl (fun β hβ => (det_loadA ty28 rfl (List.Mem.head _) rfl)) ?_
      refine HeadR.det rfl (fun β hβ => (det_call en57 rfl (fun w hb ho => Cu.Mul_ok ho.blocks))) ?_
      refine HeadR.det rfl (fun β hβ => (det_fieldAddr fl74_0 rfl)) ?_
      refine HeadR.det rfl (fun β hβ => (det_loadA ty28 rfl (List.Mem.tail _ (List.Mem.tail _ (List.Mem.tail _ (List.Mem.head _)))) rfl)) ?_
      refine HeadR.det rfl (fun β hβ => (det_call en67 rfl (fun w hb ho => Cu.Sub_ok ho.blocks))) ?_
      refine HeadR.fresh rfl (fun β hβ => (fr_alloc z28).new) ?_
      refine HeadR.done ⟨by kernel_rfl, fun β hβ => ?_⟩
      refine OpsW.norm (F' := [(26, _), (27, _), (28, _), (29, _), (30, _), (31, _), (32, _), (6, .pointer (some ⟨(β 6).1, 0, none⟩)), (5, _), (4, _), (3, _), (2, _)]) (H' := [(_, _), (_, _), (_, _), (_, _), (_, _)]) rfl rfl ?_
      generalize (β 6).1 = b6
      refine OpsW.store sz28 rfl rfl rfl rfl rfl (Upd.here) rfl ?_
      refine sNext ?_
      refine W.keep (F' := [(6, _), (5, _), (4, _), (3, _), (2, _)]) ⟨rfl, rfl, rfl, rfl, rfl, trivial⟩ ?_
      refine sSeq ?_
      refine W.draw mixed 11 [[], [0], [], [2], [0, 1, 2, 3], [], [0, 1, 2, 3, 4, 5], [], [7], [0, 1, 2, 3, 4, 5, 6, 7, 8], [], [0, 1, 2, 3, 4, 5, 6, 7, 8, 9, 10]] (cl_lt (by decide)) ?_
      refine HeadR.start (cl_lt (by decide)) ?_
      refine HeadR.det rfl (fun β hβ => (det_fieldAddr fl30_1 rfl)) ?_
      refine HeadR.det rfl (fun β hβ => (det_loadA ty28 rfl (List.Mem.tail _ (List.Mem.tail _ (List.Mem.tail _ (List.Mem.head _)))) rfl)) ?_
      refine HeadR.det rfl (fun β hβ => (det_fieldAddr fl74_2 rfl)) ?_
      refine HeadR.det rfl (fun β hβ => (det_loadA ty28 rfl (List.Mem.tail _ (List.Mem.tail _ (List.Mem.tail _ (List.Mem.tail _ (List.Mem.head _))))) rfl)) ?_
      refine HeadR.det rfl (fun β hβ => (det_call en57 rfl (fun w hb ho => Cu.Mul_ok ho.blocks))) ?_
      refine HeadR.det rfl (fun β hβ => (det_loadA ty28 rfl (List.Mem.tail _ (List.Mem.head _)) rfl)) ?_
      refine HeadR.det rfl (fun β hβ => (det_call en57 rfl (fun w hb ho => Cu.Mul_ok ho.blocks))) ?_
      refine HeadR.det rfl (fun β hβ => (det_fieldAddr fl74_1 rfl)) ?_
      refine HeadR.det rfl (fun β hβ => (det_loadA ty28 rfl (List.Mem.tail _ (List.Mem.tail _ (List.Mem.tail _ (List.Mem.tail _ (List.Mem.head _))))) rfl)) ?_
      refine HeadR.det rfl (fun β hβ => (det_call en67 rfl (fun w hb ho => Cu.Sub_ok ho.blocks))) ?_
      refine HeadR.fresh rfl (fun β hβ => (fr_alloc z28).new) ?_
      refine HeadR.done ⟨by kernel_rfl, fun β hβ => ?_⟩
      refine OpsW.norm (F' := [(33, _), (34, _), (35, _), (36, _), (37, _), (38, _), (39, _), (40, _), (41, _), (42, _), (7, .pointer (some ⟨(β 7).1, 0, none⟩)), (6, _), (5, _), (4, _), (3, _), (2, _)]) (H' := [(_, _), (_, _), (_, _), (_, _), (_, _), (_, _)]) rfl rfl ?_
      generalize (β 7).1 = b7
      refine OpsW.store sz28 rfl rfl rfl rfl rfl (Upd.here) rfl ?_
      refine sNext ?_
      refine W.keep (F' := [(7, _), (6, _), (5, _), (4, _), (2, _)]) ⟨rfl, rfl, rfl, rfl, rfl, trivial⟩ ?_
      refine sSeq ?_
      refine sSeq ?_
      refine W.region ?_
      refine OpsW.det (det_loadA ty28 rfl (List.Mem.tail _ (List.Mem.head _)) rfl) rfl ?_
      refine OpsW.det (det_call en61 rfl (fun w hb ho => Cu.Zero_ok ho.blocks)) rfl ?_
      refine sNext ?_
      refine W.keep (F' := [(44, _), (7, _), (6, _), (5, _), (4, _), (2, _)]) ⟨rfl, rfl, rfl, rfl, rfl, rfl, trivial⟩ ?_
      refine W.cond rfl (fun hc44 => ?_) (fun hc44 => ?_)
      · skip
        refine sSeq ?_
        refine sSeq ?_
        refine W.region ?_
        refine OpsW.det (det_loadA ty28 rfl (List.Mem.head _) rfl) rfl ?_
        refine OpsW.det (det_call en61 rfl (fun w hb ho => Cu.Zero_ok ho.blocks)) rfl ?_
        refine sNext ?_
        refine W.keep (F' := [(46, _), (4, _), (2, _)]) ⟨rfl, rfl, rfl, trivial⟩ ?_
        refine W.cond rfl (fun hc46 => ?_) (fun hc46 => ?_)
        · skip
          refine sSeq ?_
          refine W.region ?_
          refine OpsW.det (det_loadA ty74 rfl (List.Mem.tail _ (List.Mem.tail _ (List.Mem.tail _ (List.Mem.tail _ (List.Mem.tail _ (List.Mem.head _)))))) rfl) rfl ?_
          refine OpsW.det (det_call en63 rfl (fun w hb ho => jdbl_ok ho.blocks)) rfl ?_
          refine OpsW.store sz74 rfl rfl rfl rfl rfl (Upd.there (Upd.there (Upd.there (Upd.here)))) rfl ?_
          refine sNext ?_
          refine W.keep (F' := [(4, _)]) ⟨rfl, trivial⟩ ?_
          refine sRet ?_
          exact done1 Tryd.results53 (rv_cellA ty74 rfl (List.Mem.tail _ (List.Mem.tail _ (List.Mem.tail _ (List.Mem.head _)))) rfl) (congrArg encJ (jadd_d hc16 hc20 hc44 hc46).symm)
        · skip
          refine sSkip ?_
          refine sSeq ?_
          refine W.region ?_
          refine OpsW.det (det_zero bz74) rfl ?_
          refine OpsW.store sz74 rfl rfl rfl rfl rfl (Upd.there (Upd.there (Upd.there (Upd.here)))) rfl ?_
          refine sNext ?_
          refine W.keep (F' := [(4, _)]) ⟨rfl, trivial⟩ ?_
          refine sRet ?_
          exact done1 Tryd.results53 (rv_cellA ty74 rfl (List.Mem.tail _ (List.Mem.tail _ (List.Mem.tail _ (List.Mem.head _)))) rfl) (congrArg encJ (jadd_o hc16 hc20 hc44 hc46).symm)
      · skip
        refine sSkip ?_
        refine sSeq ?_
        refine W.region ?_
        refine OpsW.det (det_loadA ty28 rfl (List.Mem.head _) rfl) rfl ?_
        refine OpsW.det (det_loadA ty28 rfl (List.Mem.head _) rfl) rfl ?_
        refine OpsW.det (det_call en33 rfl (fun w hb ho => Cu.Add_ok ho.blocks)) rfl ?_
        refine OpsW.store sz28 rfl rfl rfl rfl rfl (Upd.here) rfl ?_
        refine sNext ?_
        refine W.keep (F' := [(7, _), (6, _), (5, _), (4, _), (2, _)]) ⟨rfl, rfl, rfl, rfl, rfl, trivial⟩ ?_
        refine sSeq ?_
        refine W.region ?_
        refine OpsW.det (det_loadA ty28 rfl (List.Mem.tail _ (List.Mem.head _)) rfl) rfl ?_
        refine OpsW.det (det_call en56 rfl (fun w hb ho => Cu.Square_ok ho.blocks)) rfl ?_
        refine OpsW.fresh (fr_alloc z28) rfl fun b8 => ?_
        refine OpsW.store sz28 rfl rfl rfl rfl rfl (Upd.here) rfl ?_
        refine sNext ?_
        refine W.keep (F' := [(8, _), (7, _), (6, _), (5, _), (4, _), (2, _)]) ⟨rfl, rfl, rfl, rfl, rfl, rfl, trivial⟩ ?_
        refine sSeq ?_
        refine W.region ?_
        refine OpsW.det (det_loadA ty28 rfl (List.Mem.head _) rfl) rfl ?_
        refine OpsW.det (det_loadA ty28 rfl (List.Mem.head _) rfl) rfl ?_
        refine OpsW.det (det_call en33 rfl (fun w hb ho => Cu.Add_ok ho.blocks)) rfl ?_
        refine OpsW.fresh (fr_alloc z28) rfl fun b9 => ?_
        refine OpsW.store sz28 rfl rfl rfl rfl rfl (Upd.here) rfl ?_
        refine sNext ?_
        refine W.keep (F' := [(9, _), (8, _), (7, _), (6, _), (5, _), (4, _), (2, _)]) ⟨rfl, rfl, rfl, rfl, rfl, rfl, rfl, trivial⟩ ?_
        refine sSeq ?_
        refine W.region ?_
        refine OpsW.det (det_loadA ty28 rfl (List.Mem.head _) rfl) rfl ?_
        refine OpsW.det (det_loadA ty28 rfl (List.Mem.head _) rfl) rfl ?_
        refine OpsW.det (det_call en33 rfl (fun w hb ho => Cu.Add_ok ho.blocks)) rfl ?_
        refine OpsW.store sz28 rfl rfl rfl rfl rfl (Upd.here) rfl ?_
        refine sNext ?_
        refine W.keep (F' := [(9, _), (8, _), (7, _), (6, _), (5, _), (4, _), (2, _)]) ⟨rfl, rfl, rfl, rfl, rfl, rfl, rfl, trivial⟩ ?_
        refine sSeq ?_
        refine W.draw mixed 9 [[], [], [0, 1], [], [3], [], [0, 1, 2, 3, 4, 5], [], [], [0, 1, 2, 3, 4, 5, 6, 7, 8], [0, 1, 2, 3, 4, 5, 6, 7, 8, 9]] (cl_lt (by decide)) ?_
        refine HeadR.start (cl_lt (by decide)) ?_
        refine HeadR.det rfl (fun β hβ => (det_loadA ty28 rfl (List.Mem.tail _ (List.Mem.tail _ (List.Mem.tail _ (List.Mem.head _)))) rfl)) ?_
        refine HeadR.det rfl (fun β hβ => (det_loadA ty28 rfl (List.Mem.head _) rfl)) ?_
        refine HeadR.det rfl (fun β hβ => (det_call en57 rfl (fun w hb ho => Cu.Mul_ok ho.blocks))) ?_
        refine HeadR.det rfl (fun β hβ => (det_fieldAddr fl74_0 rfl)) ?_
        refine HeadR.det rfl (fun β hβ => (det_loadA ty28 rfl (List.Mem.tail _ (List.Mem.tail _ (List.Mem.tail _ (List.Mem.tail _ (List.Mem.tail _ (List.Mem.tail _ (List.Mem.tail _ (List.Mem.head _)))))))) rfl)) ?_
        refine HeadR.det rfl (fun β hβ => (det_loadA ty28 rfl (List.Mem.head _) rfl)) ?_
        refine HeadR.det rfl (fun β hβ => (det_call en57 rfl (fun w hb ho => Cu.Mul_ok ho.blocks))) ?_
        refine HeadR.fresh rfl (fun β hβ => (fr_alloc z28).new) ?_
        refine HeadR.fresh rfl (fun β hβ => (fr_alloc z28).new) ?_
        refine HeadR.done ⟨by kernel_rfl, fun β hβ => ?_⟩
        refine OpsW.norm (F' := [(61, _), (62, _), (63, _), (64, _), (65, _), (66, _), (67, _), (10, .pointer (some ⟨(β 10).1, 0, none⟩)), (11, .pointer (some ⟨(β 11).1, 0, none⟩)), (9, _), (8, _), (7, _), (6, _), (5, _), (4, _), (2, _)]) (H' := [(_, _), (_, _), (_, _), (_, _), (_, _), (_, _), (_, _), (_, _), (_, _), (_, _)]) rfl rfl ?_
        generalize (β 10).1 = b10
        generalize (β 11).1 = b11
        refine OpsW.store sz28 rfl rfl rfl rfl rfl (Upd.here) rfl ?_
        refine OpsW.store sz28 rfl rfl rfl rfl rfl (Upd.there (Upd.here)) rfl ?_
        refine sNext ?_
        refine W.keep (F' := [(10, _), (11, _), (8, _), (7, _), (6, _), (5, _), (4, _), (2, _)]) ⟨rfl, rfl, rfl, rfl, rfl, rfl, rfl, rfl, trivial⟩ ?_
        refine sSeq ?_
        refine W.draw mixed 9 [[], [0], [], [0, 1, 2], [], [0, 1, 2, 3, 4], [], [0, 1, 2, 3, 4, 5, 6], [], [0, 1, 2, 3, 4, 5, 6, 7, 8]] (cl_lt (by decide)) ?_
        refine HeadR.start (cl_lt (by decide)) ?_
        refine HeadR.det rfl (fun β hβ => (det_loadA ty28 rfl (List.Mem.tail _ (List.Mem.tail _ (List.Mem.tail _ (List.Mem.tail _ (List.Mem.head _))))) rfl)) ?_
        refine HeadR.det rfl (fun β hβ => (det_call en56 rfl (fun w hb ho => Cu.Square_ok ho.blocks))) ?_
        refine HeadR.det rfl (fun β hβ => (det_loadA ty28 rfl (List.Mem.head _) rfl)) ?_
        refine HeadR.det rfl (fun β hβ => (det_call en67 rfl (fun w hb ho => Cu.Sub_ok ho.blocks))) ?_
        refine HeadR.det rfl (fun β hβ => (det_loadA ty28 rfl (List.Mem.tail _ (List.Mem.head _)) rfl)) ?_
        refine HeadR.det rfl (fun β hβ => (det_call en67 rfl (fun w hb ho => Cu.Sub_ok ho.blocks))) ?_
        refine HeadR.det rfl (fun β hβ => (det_loadA ty28 rfl (List.Mem.tail _ (List.Mem.head _)) rfl)) ?_
        refine HeadR.det rfl (fun β hβ => (det_call en67 rfl (fun w hb ho => Cu.Sub_ok ho.blocks))) ?_
        refine HeadR.fresh rfl (fun β hβ => (fr_alloc z28).new) ?_
        refine HeadR.done ⟨by kernel_rfl, fun β hβ => ?_⟩
        refine OpsW.norm (F' := [(68, _), (69, _), (70, _), (71, _), (72, _), (73, _), (74, _), (75, _), (12, .pointer (some ⟨(β 12).1, 0, none⟩)), (10, _), (11, _), (8, _), (7, _), (6, _), (5, _), (4, _), (2, _)]) (H' := [(_, _), (_, _), (_, _), (_, _), (_, _), (_, _), (_, _), (_, _), (_, _), (_, _), (_, _)]) rfl rfl ?_
        generalize (β 12).1 = b12
        refine OpsW.store sz28 rfl rfl rfl rfl rfl (Upd.here) rfl ?_
        refine sNext ?_
        refine W.keep (F' := [(12, _), (10, _), (11, _), (8, _), (7, _), (6, _), (5, _), (4, _), (2, _)]) ⟨rfl, rfl, rfl, rfl, rfl, rfl, rfl, rfl, rfl, trivial⟩ ?_
        refine sSeq ?_
        refine W.region ?_
        refine OpsW.det (det_fieldAddr fl74_1 rfl) rfl ?_
        refine OpsW.det (det_loadA ty28 rfl (List.Mem.tail _ (List.Mem.tail _ (List.Mem.tail _ (List.Mem.tail _ (List.Mem.tail _ (List.Mem.tail _ (List.Mem.tail _ (List.Mem.tail _ (List.Mem.tail _ (List.Mem.tail _ (List.Mem.head _))))))))))) rfl) rfl ?_
        refine OpsW.det (det_loadA ty28 rfl (List.Mem.tail _ (List.Mem.head _)) rfl) rfl ?_
        refine OpsW.det (det_call en57 rfl (fun w hb ho => Cu.Mul_ok ho.blocks)) rfl ?_
        refine OpsW.fresh (fr_alloc z28) rfl fun b13 => ?_
        refine OpsW.store sz28 rfl rfl rfl rfl rfl (Upd.here) rfl ?_
        refine sNext ?_
        refine W.keep (F' := [(13, _), (12, _), (11, _), (8, _), (7, _), (6, _), (5, _), (4, _), (2, _)]) ⟨rfl, rfl, rfl, rfl, rfl, rfl, rfl, rfl, rfl, trivial⟩ ?_
        refine sSeq ?_
        refine W.draw mixed 20 [[], [], [], [], [2, 3], [1, 2, 3, 4], [], [1, 2, 3, 4, 5, 6], [], [1, 2, 3, 4, 5, 6, 7, 8], [], [10], [], [1, 2, 3, 4, 5, 6, 7, 8, 9, 10, 11, 12], [1, 2, 3, 4, 5, 6, 7, 8, 9, 10, 11, 12, 13], [], [1, 2, 3, 4, 5, 6, 7, 8, 9, 10, 11, 12, 13, 14, 15], [], [1, 2, 3, 4, 5, 6, 7, 8, 9, 10, 11, 12, 13, 14, 15, 16, 17], [0, 1, 2, 3, 4, 5, 6, 7, 8, 9, 10, 11, 12, 13, 14, 15, 16, 17, 18], [0, 1, 2, 3, 4, 5, 6, 7, 8, 9, 10, 11, 12, 13, 14, 15, 16, 17, 18, 19]] (cl_lt (by decide)) ?_
        refine HeadR.start (cl_lt (by decide)) ?_
        refine HeadR.det rfl (fun β hβ => (det_loadA ty28 rfl (List.Mem.tail _ (List.Mem.head _)) rfl)) ?_
        refine HeadR.det rfl (fun β hβ => (det_loadA ty28 rfl (List.Mem.tail _ (List.Mem.tail _ (List.Mem.tail _ (List.Mem.tail _ (List.Mem.tail _ (List.Mem.tail _ (List.Mem.head _))))))) rfl)) ?_
        refine HeadR.det rfl (fun β hβ => (det_loadA ty28 rfl (List.Mem.tail _ (List.Mem.tail _ (List.Mem.tail _ (List.Mem.head _)))) rfl)) ?_
        refine HeadR.det rfl (fun β hβ => (det_loadA ty28 rfl (List.Mem.tail _ (List.Mem.head _)) rfl)) ?_
        refine HeadR.det rfl (fun β hβ => (det_call en67 rfl (fun w hb ho => Cu.Sub_ok ho.blocks))) ?_
        refine HeadR.det rfl (fun β hβ => (det_call en57 rfl (fun w hb ho => Cu.Mul_ok ho.blocks))) ?_
        refine HeadR.det rfl (fun β hβ => (det_loadA ty28 rfl (List.Mem.head _) rfl)) ?_
        refine HeadR.det rfl (fun β hβ => (det_call en67 rfl (fun w hb ho => Cu.Sub_ok ho.blocks))) ?_
        refine HeadR.det rfl (fun β hβ => (det_loadA ty28 rfl (List.Mem.head _) rfl)) ?_
        refine HeadR.det rfl (fun β hβ => (det_call en67 rfl (fun w hb ho => Cu.Sub_ok ho.blocks))) ?_
        refine HeadR.det rfl (fun β hβ => (det_fieldAddr fl74_2 rfl)) ?_
        refine HeadR.det rfl (fun β hβ => (det_loadA ty28 rfl (List.Mem.tail _ (List.Mem.tail _ (List.Mem.tail _ (List.Mem.tail _ (List.Mem.tail _ (List.Mem.tail _ (List.Mem.tail _ (List.Mem.tail _ (List.Mem.tail _ (List.Mem.tail _ (List.Mem.tail _ (List.Mem.head _)))))))))))) rfl)) ?_
        refine HeadR.det rfl (fun β hβ => (det_loadA ty28 rfl (List.Mem.tail _ (List.Mem.tail _ (List.Mem.tail _ (List.Mem.tail _ (List.Mem.tail _ (List.Mem.tail _ (List.Mem.tail _ (List.Mem.head _)))))))) rfl)) ?_
        refine HeadR.det rfl (fun β hβ => (det_call en33 rfl (fun w hb ho => Cu.Add_ok ho.blocks))) ?_
        refine HeadR.det rfl (fun β hβ => (det_call en56 rfl (fun w hb ho => Cu.Square_ok ho.blocks))) ?_
        refine HeadR.det rfl (fun β hβ => (det_loadA ty28 rfl (List.Mem.tail _ (List.Mem.tail _ (List.Mem.tail _ (List.Mem.tail _ (List.Mem.tail _ (List.Mem.tail _ (List.Mem.tail _ (List.Mem.tail _ (List.Mem.head _))))))))) rfl)) ?_
        refine HeadR.det rfl (fun β hβ => (det_call en67 rfl (fun w hb ho => Cu.Sub_ok ho.blocks))) ?_
        refine HeadR.det rfl (fun β hβ => (det_loadA ty28 rfl (List.Mem.tail _ (List.Mem.tail _ (List.Mem.tail _ (List.Mem.tail _ (List.Mem.tail _ (List.Mem.head _)))))) rfl)) ?_
        refine HeadR.det rfl (fun β hβ => (det_call en67 rfl (fun w hb ho => Cu.Sub_ok ho.blocks))) ?_
        refine HeadR.det rfl (fun β hβ => (det_build rfl bld74)) ?_
        refine HeadR.done ⟨by kernel_rfl, fun β hβ => ?_⟩
        refine OpsW.norm (F' := [(80, _), (81, _), (82, _), (83, _), (84, _), (85, _), (86, _), (87, _), (88, _), (89, _), (90, _), (91, _), (92, _), (93, _), (94, _), (95, _), (96, _), (97, _), (98, _), (99, _), (13, _), (12, _), (11, _), (8, _), (7, _), (6, _), (5, _), (4, _), (2, _)]) (H' := [(_, _), (_, _), (_, _), (_, _), (_, _), (_, _), (_, _), (_, _), (_, _), (_, _), (_, _), (_, _)]) rfl rfl ?_
        refine OpsW.store sz74 rfl rfl rfl rfl rfl (Upd.there (Upd.there (Upd.there (Upd.there (Upd.there (Upd.there (Upd.there (Upd.there (Upd.there (Upd.here)))))))))) rfl ?_
        refine sNext ?_
        refine W.keep (F' := [(4, _)]) ⟨rfl, trivial⟩ ?_
        refine sRet ?_
        exact done1 Tryd.results53 (rv_cellA ty74 rfl (List.Mem.tail _ (List.Mem.tail _ (List.Mem.tail _ (List.Mem.tail _ (List.Mem.tail _ (List.Mem.tail _ (List.Mem.tail _ (List.Mem.tail _ (List.Mem.tail _ (List.Mem.head _)))))))))) rfl) (congrArg encJ (jadd_n hc16 hc20 hc44).symm)
theorem PAdd_ok {p q : Pt} {w : World} (hG : Blocks (GH T) w)  : Vm.Pure Tryd.prog 20 #[encP p, encP q] w (encP (padd p q)) := by
  refine pure_of_W (n := 10) (args := [encP p, encP q]) Tryd.func20 rfl Tryd.ntmps20 (Nat.le_of_ble_eq_true rfl) hG ?_
  refine sStart ?_
  refine sSeq ?_
  refine W.region ?_
  refine OpsW.fresh (fr_box rfl rfl) rfl fun b2 => ?_
  refine OpsW.fresh (fr_box rfl rfl) rfl fun b3 => ?_
  refine OpsW.fresh (fr_alloc z30) rfl fun b4 => ?_
  refine sNext ?_
  refine W.keep (F' := [(4, _), (3, _), (2, _)]) ⟨rfl, rfl, rfl, trivial⟩ ?_
  refine sSeq ?_
  refine W.draw mixed 5 [[], [0], [], [0, 1, 2], [0, 1, 2, 3], [0, 1, 2, 3, 4]] (cl_lt (by decide)) ?_
  refine HeadR.start (cl_lt (by decide)) ?_
  refine HeadR.det rfl (fun β hβ => (det_loadA ty30 rfl (List.Mem.tail _ (List.Mem.tail _ (List.Mem.head _))) rfl)) ?_
  refine HeadR.det rfl (fun β hβ => (det_call en52 rfl (fun w hb ho => tojac_ok ho.blocks))) ?_
  refine HeadR.det rfl (fun β hβ => (det_loadA ty30 rfl (List.Mem.tail _ (List.Mem.head _)) rfl)) ?_
  refine HeadR.det rfl (fun β hβ => (det_call en53 rfl (fun w hb ho => jadd_ok ho.blocks))) ?_
  refine HeadR.det rfl (fun β hβ => (det_call en54 rfl (fun w hb ho => point_ok ho.blocks))) ?_
  refine HeadR.done ⟨by kernel_rfl, fun β hβ => ?_⟩
  refine OpsW.norm (F' := [(5, _), (6, _), (7, _), (8, _), (9, _), (4, _), (3, _), (2, _)]) (H' := [(_, _), (_, _), (_, _)]) rfl rfl ?_
  refine OpsW.store sz30 rfl rfl rfl rfl rfl (Upd.here) rfl ?_
  refine sNext ?_
  refine W.keep (F' := [(4, _)]) ⟨rfl, trivial⟩ ?_
  refine sRet ?_
  exact done1 Tryd.results20 (rv_cellA ty30 rfl (List.Mem.head _) rfl) rfl

end Go.Cu

/- Words' carries and borrows, in closed form. Conditions: none; plain arithmetic. -/
namespace Go.Cu
open Go Go.Vm
def car (i m k : Nat) : Nat := (m % 18446744073709551616 ^ i + k % 18446744073709551616 ^ i) / 18446744073709551616 ^ i
def bor (i m k : Nat) : Nat := if m % 18446744073709551616 ^ i < k % 18446744073709551616 ^ i then 1 else 0
theorem car_0 (m k : Nat) : car 0 m k = 0 := by simp [car, Nat.mod_one]
theorem bor_0 (m k : Nat) : bor 0 m k = 0 := by simp [bor, Nat.mod_one]
theorem bor_le (i m k : Nat) : bor i m k ≤ 1 := by unfold bor; split <;> omega
theorem car_le (i m k : Nat) : car i m k ≤ 1 := by
  unfold car
  have h0 : 0 < 18446744073709551616 ^ i := Nat.pow_pos (by decide)
  have h1 := Nat.mod_lt m h0
  have h2 := Nat.mod_lt k h0
  have := Nat.div_lt_of_lt_mul (show m % 18446744073709551616 ^ i + k % 18446744073709551616 ^ i < 18446744073709551616 ^ i * 2 by omega)
  omega
theorem mod_succ (m i : Nat) : m % 18446744073709551616 ^ (i + 1) = m % 18446744073709551616 ^ i + 18446744073709551616 ^ i * lim m i := by
  rw [Nat.pow_succ, Nat.mod_mul]; rfl
theorem add_step (i m k : Nat) : lim m i + lim k i + car i m k = lim (m + k) i + 18446744073709551616 * car (i + 1) m k := by
  have h0 : 0 < 18446744073709551616 ^ i := Nat.pow_pos (by decide)
  have h1 : (m + k) / 18446744073709551616 ^ i = m / 18446744073709551616 ^ i + k / 18446744073709551616 ^ i + car i m k := by
    unfold car
    have e1 := Nat.div_add_mod m (18446744073709551616 ^ i)
    have e2 := Nat.div_add_mod k (18446744073709551616 ^ i)
    have : m + k = (m % 18446744073709551616 ^ i + k % 18446744073709551616 ^ i) + 18446744073709551616 ^ i * (m / 18446744073709551616 ^ i + k / 18446744073709551616 ^ i) := by rw [Nat.mul_add]; omega
    rw [this, Nat.add_mul_div_left _ _ h0]; omega
  have h2 : car (i + 1) m k = (lim m i + lim k i + car i m k) / 18446744073709551616 := by
    conv => lhs; unfold car
    rw [mod_succ, mod_succ, Nat.pow_succ, ← Nat.div_div_eq_div_mul,
      show m % 18446744073709551616 ^ i + 18446744073709551616 ^ i * lim m i + (k % 18446744073709551616 ^ i + 18446744073709551616 ^ i * lim k i) = (m % 18446744073709551616 ^ i + k % 18446744073709551616 ^ i) + 18446744073709551616 ^ i * (lim m i + lim k i) by rw [Nat.mul_add]; omega,
      Nat.add_mul_div_left _ _ h0]
    unfold car
    rw [Nat.add_comm]
  have h3 : lim (m + k) i = (lim m i + lim k i + car i m k) % 18446744073709551616 := by
    unfold lim
    rw [h1]; omega
  rw [h2, h3]; omega
theorem lim_big {m i n : Nat} (h : i < n) : lim (m + 18446744073709551616 ^ n) i = lim m i := by
  unfold lim
  obtain ⟨k, rfl⟩ : ∃ k, n = i + 1 + k := ⟨n - i - 1, by omega⟩
  have h0 : 0 < 18446744073709551616 ^ i := Nat.pow_pos (by decide)
  rw [Nat.pow_add, Nat.pow_succ, Nat.mul_assoc, Nat.add_mul_div_left _ _ h0, Nat.add_mul_mod_self_left]
theorem sub_step {i n m k : Nat} (h : i < n) (hk : k ≤ m + 18446744073709551616 ^ n) (hm : m < 18446744073709551616 ^ n) :
    lim (m + 18446744073709551616 ^ n - k) i + lim k i + bor i m k = lim m i + 18446744073709551616 * bor (i + 1) m k := by
  have key : ∀ j, j ≤ n → bor j m k = car j (m + 18446744073709551616 ^ n - k) k := fun j hj => by
    have h0 : 0 < 18446744073709551616 ^ j := Nat.pow_pos (by decide)
    generalize hD : m + 18446744073709551616 ^ n - k = D
    have e : D + k = m + 18446744073709551616 ^ n := by omega
    have e2 : (D % 18446744073709551616 ^ j + k % 18446744073709551616 ^ j) % 18446744073709551616 ^ j = m % 18446744073709551616 ^ j := by
      rw [← Nat.add_mod, e]
      obtain ⟨c, rfl⟩ : ∃ c, n = j + c := ⟨n - j, by omega⟩
      rw [Nat.pow_add, Nat.add_mul_mod_self_left]
    have e3 := Nat.div_add_mod (D % 18446744073709551616 ^ j + k % 18446744073709551616 ^ j) (18446744073709551616 ^ j)
    rw [e2] at e3
    have hc := car_le j D k
    have hd := Nat.mod_lt D h0
    unfold bor
    unfold car at hc ⊢
    generalize (D % 18446744073709551616 ^ j + k % 18446744073709551616 ^ j) / 18446744073709551616 ^ j = c at *
    have : c = 0 ∨ c = 1 := by omega
    rcases this with rfl | rfl
    · rw [if_neg (by omega)]
    · rw [if_pos (by omega)]
  rw [key i (by omega), key (i + 1) (by omega), add_step, Nat.sub_add_cancel hk, lim_big h]
def sel (i s m j : Nat) : Nat := if j < i then lim s j else lim m j
theorem sel_0 {s m j : Nat} : sel 0 s m j = lim m j := if_neg (by omega)
theorem sel_at {i s m : Nat} : sel i s m i = lim m i := if_neg (by omega)
theorem sel_new {i s m : Nat} : sel (i + 1) s m i = lim s i := if_pos (by omega)
theorem sel_old {i s m j : Nat} (h : j ≠ i) : sel (i + 1) s m j = sel i s m j := by
  unfold sel
  by_cases hj : j < i
  · rw [if_pos hj, if_pos (by omega)]
  · rw [if_neg hj, if_neg (by omega)]
abbrev w4 (f : Nat → Nat) : List Value := [u64 (f 0), u64 (f 1), u64 (f 2), u64 (f 3)]
theorem at4 {f : Nat → Nat} {i k : Nat} (h : i < 4) (hk : k = i) : (w4 f)[k]? = some (u64 (f i)) := by
  subst hk
  have : k = 0 ∨ k = 1 ∨ k = 2 ∨ k = 3 := by omega
  rcases this with rfl | rfl | rfl | rfl <;> rfl
theorem put4 {f f' : Nat → Nat} {v i k : Nat} (h : i < 4) (hk : k = i) (hv : f' i = v) (hf : ∀ j, j ≠ i → f' j = f j) : splice k [u64 v] (w4 f) = some (w4 f') := by
  subst hk
  have : k = 0 ∨ k = 1 ∨ k = 2 ∨ k = 3 := by omega
  rcases this with rfl | rfl | rfl | rfl
  · show some [u64 v, u64 (f 1), u64 (f 2), u64 (f 3)] = some [u64 (f' 0), u64 (f' 1), u64 (f' 2), u64 (f' 3)]; rw [hv, hf 1 (by decide), hf 2 (by decide), hf 3 (by decide)]
  · show some [u64 (f 0), u64 v, u64 (f 2), u64 (f 3)] = some [u64 (f' 0), u64 (f' 1), u64 (f' 2), u64 (f' 3)]; rw [hv, hf 0 (by decide), hf 2 (by decide), hf 3 (by decide)]
  · show some [u64 (f 0), u64 (f 1), u64 v, u64 (f 3)] = some [u64 (f' 0), u64 (f' 1), u64 (f' 2), u64 (f' 3)]; rw [hv, hf 0 (by decide), hf 1 (by decide), hf 3 (by decide)]
  · show some [u64 (f 0), u64 (f 1), u64 (f 2), u64 v] = some [u64 (f' 0), u64 (f' 1), u64 (f' 2), u64 (f' 3)]; rw [hv, hf 0 (by decide), hf 1 (by decide), hf 2 (by decide)]
theorem w4_congr {f g : Nat → Nat} (h : ∀ j, j < 4 → f j = g j) : w4 f = w4 g := by
  unfold w4; rw [h 0 (by decide), h 1 (by decide), h 2 (by decide), h 3 (by decide)]
theorem add_pair (i m k : Nat) : Value.tuple #[u64 ((lim m i + lim k i + car i m k) % 18446744073709551616), u64 ((lim m i + lim k i + car i m k) / 18446744073709551616)] = .tuple #[u64 (lim (m + k) i), u64 (car (i + 1) m k)] := by
  have h := add_step i m k
  have h1 := lim_lt (m + k) i
  rw [show (lim m i + lim k i + car i m k) % 18446744073709551616 = lim (m + k) i by omega, show (lim m i + lim k i + car i m k) / 18446744073709551616 = car (i + 1) m k by omega]
theorem sub_pair {i n m k : Nat} (h : i < n) (hk : k ≤ m + 18446744073709551616 ^ n) (hm : m < 18446744073709551616 ^ n) :
    Value.tuple #[u64 ((lim m i + 18446744073709551616 - lim k i - bor i m k) % 18446744073709551616), u64 (if lim m i < lim k i + bor i m k then 1 else 0)] = .tuple #[u64 (lim (m + 18446744073709551616 ^ n - k) i), u64 (bor (i + 1) m k)] := by
  have h := sub_step h hk hm
  have h1 := lim_lt (m + 18446744073709551616 ^ n - k) i
  have h2 := bor_le (i + 1) m k
  have h3 := bor_le i m k
  have h4 := lim_lt k i
  have h5 := lim_lt m i
  generalize lim (m + 18446744073709551616 ^ n - k) i = d at *
  generalize bor (i + 1) m k = b' at *
  rw [show (lim m i + 18446744073709551616 - lim k i - bor i m k) % 18446744073709551616 = d by omega, show (if lim m i < lim k i + bor i m k then 1 else 0) = b' by split <;> omega]
theorem R4_pow : 18446744073709551616 ^ 4 = R4 := by decide
end Go.Cu

/- The scalars: sums and differences: the walks. Conditions: numbers below the order. -/
namespace Go.Cu
open Go Go.Vm Go.RowKit Go.Proofs 
attribute [local irreducible] W OpsW Det Fresh New Writes Vm.Pure Makes Changes ExternTo BuildTo ZeroTo FieldTo IndexTo BinTo SliceTo Vm.Enters
set_option linter.unusedVariables false
set_option linter.unusedSimpArgs false
variable {T : Nat → TypeId × Nat × Nat}

theorem rlo_mod {v : Nat} (h : v < rr) : v % rr = v := Nat.mod_eq_of_lt h
theorem rhi_mod {v : Nat} (h : rr ≤ v) (h2 : v < 2 * rr) : v % rr = v - rr := by rw [Nat.mod_eq_sub_mod h, Nat.mod_eq_of_lt (by omega)]
theorem enc4_congr {m k : Nat} (h : ∀ j, j < 4 → lim m j = lim k j) : enc4 m = enc4 k := by
  unfold enc4; rw [h 0 (by decide), h 1 (by decide), h 2 (by decide), h 3 (by decide)]
theorem sub_w4 {f g : Nat → Nat} {n t : Nat} {r : Hp} (h : ∀ j, j < 4 → f j = g j) : List.Sublist ((n, blk (w4 f) t) :: r) ((n, blk (w4 g) t) :: r) := by rw [w4_congr h]; exact List.Sublist.refl _
theorem bor_4 {m k : Nat} (hm : m < R4) (hk : k < R4) : bor 4 m k = if m < k then 1 else 0 := by
  unfold bor; rw [R4_pow, Nat.mod_eq_of_lt hm, Nat.mod_eq_of_lt hk]
theorem car_4 {m k : Nat} (hm : m < rr) (hk : k < rr) : car 4 m k = 0 := by
  have h1 : m < R4 := Nat.lt_trans hm (by decide)
  have h2 : k < R4 := Nat.lt_trans hk (by decide)
  unfold car; rw [R4_pow, Nat.mod_eq_of_lt h1, Nat.mod_eq_of_lt h2]
  exact Nat.div_eq_of_lt (by unfold rr at hm hk; unfold R4; omega)
theorem z4_w4 : ([.int .u64 0, .int .u64 0, .int .u64 0, .int .u64 0] : List Value) = w4 (sel 0 0 0) := by kernel_rfl
theorem big4 {m j : Nat} (h : j < 4) : lim (m + R4) j = lim m j := by rw [← R4_pow]; exact lim_big h
theorem red_lo {V : Nat} (h : bor 4 V rr = 1) (hV : V < 2 * rr) : V % rr = V := by
  rw [bor_4 (Nat.lt_trans hV (by decide)) (by decide)] at h
  refine rlo_mod ?_
  by_cases hh : V < rr
  · exact hh
  · rw [if_neg hh] at h; cases h
theorem red_hi {V D : Nat} (hD : D + rr = V + R4) (h : bor 4 V rr ≠ 1) (hV : V < 2 * rr) : enc4 D = enc4 (V % rr) := by
  rw [bor_4 (Nat.lt_trans hV (by decide)) (by decide)] at h
  have hh : rr ≤ V := by
    rcases Nat.lt_or_ge V rr with hl | hl
    · rw [if_pos hl] at h; exact absurd rfl h
    · exact hl
  rw [rhi_mod hh hV, show D = (V - rr) + R4 by omega]
  exact enc4_congr fun j hj => big4 hj
theorem sub_pair4 {i m k D : Nat} (h : i < 4) (hD : D + k = m + R4) (hm : m < R4) :
    Value.tuple #[u64 ((lim m i + 18446744073709551616 - lim k i - bor i m k) % 18446744073709551616), u64 (if lim m i < lim k i + bor i m k then 1 else 0)] = .tuple #[u64 (lim D i), u64 (bor (i + 1) m k)] := by
  have h1 := sub_pair (i := i) (n := 4) (m := m) (k := k) h (by rw [R4_pow]; omega) (by rw [R4_pow]; exact hm)
  rwa [R4_pow, show m + R4 - k = D by omega] at h1
theorem add_pairE {m k S : Nat} (hS : S = m + k) (i : Nat) : Value.tuple #[u64 ((lim m i + lim k i + car i m k) % 18446744073709551616), u64 ((lim m i + lim k i + car i m k) / 18446744073709551616)] = .tuple #[u64 (lim S i), u64 (car (i + 1) m k)] := by
  rw [hS]; exact add_pair i m k
theorem sel_full {s m : Nat} : ∀ j, j < 4 → sel 4 s m j = lim s j := fun j hj => if_pos hj

theorem rsub_hi {m k D : Nat} (hD : D + k = m + R4) (h : bor 4 m k ≠ 1) (hm : m < rr) (hk : k < rr) : enc4 D = enc4 ((m + (rr - k)) % rr) := by
  rw [bor_4 (Nat.lt_trans hm (by decide)) (Nat.lt_trans hk (by decide))] at h
  have hh : k ≤ m := by
    rcases Nat.lt_or_ge m k with hl | hl
    · rw [if_pos hl] at h; exact absurd rfl h
    · exact hl
  rw [rhi_mod (by omega) (by omega), show D = (m + (rr - k) - rr) + R4 by omega]
  exact enc4_congr fun j hj => big4 hj
theorem rsub_lo {m k D E : Nat} (hD : D + k = m + R4) (hE : E = D + rr) (h : bor 4 m k = 1) (hm : m < rr) (hk : k < rr) : enc4 E = enc4 ((m + (rr - k)) % rr) := by
  rw [bor_4 (Nat.lt_trans hm (by decide)) (Nat.lt_trans hk (by decide))] at h
  have hh : m < k := by
    rcases Nat.lt_or_ge m k with hl | hl
    · exact hl
    · rw [if_neg (by omega)] at h; cases h
  have h4 : rr < R4 := by decide
  rw [rlo_mod (by omega), show E = (m + (rr - k)) + R4 by omega]
  exact enc4_congr fun j hj => big4 hj

theorem bld35 {v0 v1 v2 v3 : Int} : BuildTo Tryd.prog 35 [(0, (.agg #[.int .u64 v0, .int .u64 v1, .int .u64 v2, .int .u64 v3]))] (.agg #[.int .u64 v0, .int .u64 v1, .int .u64 v2, .int .u64 v3]) := BuildTo.of fun _ => by kernel_rfl
theorem en66 : Vm.Enters Tryd.prog 66 := Vm.Enters.of fun _ _ => by kernel_rfl
theorem fl35_0 : TyF Tryd.prog 35 0 0 4 := ⟨⟨33, by kernel_rfl, by kernel_rfl⟩, by decide⟩
theorem sz33 : sizeIn Tryd.prog 33 = some 4 := by kernel_rfl
theorem sz35 : sizeIn Tryd.prog 35 = some 4 := by kernel_rfl
theorem ty33 : TyA Tryd.prog 33 4 := ⟨by kernel_rfl, by kernel_rfl⟩
theorem ty35 : TyA Tryd.prog 35 4 := ⟨by kernel_rfl, by kernel_rfl⟩
theorem u33 : Tryd.prog.underlying 33 = some (.array 4 25) := by kernel_rfl
theorem z33 : TyZ Tryd.prog 33 (.agg #[.int .u64 0, .int .u64 0, .int .u64 0, .int .u64 0]) [.int .u64 0, .int .u64 0, .int .u64 0, .int .u64 0] := ⟨fun _ => by kernel_rfl, by kernel_rfl⟩
theorem z35 : TyZ Tryd.prog 35 (.agg #[.int .u64 0, .int .u64 0, .int .u64 0, .int .u64 0]) [.int .u64 0, .int .u64 0, .int .u64 0, .int .u64 0] := ⟨fun _ => by kernel_rfl, by kernel_rfl⟩
theorem rreduce_w_ok {V D : Nat} (hD : D + rr = V + R4) (hV : V < 2 * rr) {w : World} (hG : Blocks (GH T) w)  : Vm.Pure Tryd.prog 66 #[.agg #[u64 (lim (V) 0), u64 (lim (V) 1), u64 (lim (V) 2), u64 (lim (V) 3)], u64 0] w (enc4 (V % rr)) := by
  refine pure_of_W (n := 33) (args := [.agg #[u64 (lim (V) 0), u64 (lim (V) 1), u64 (lim (V) 2), u64 (lim (V) 3)], u64 0]) Tryd.func66 rfl Tryd.ntmps66 (Nat.le_of_ble_eq_true rfl) hG ?_
  refine sStart ?_
  refine sSeq ?_
  refine W.region ?_
  refine OpsW.fresh (fr_box rfl rfl) rfl fun b2 => ?_
  refine OpsW.fresh (fr_alloc z33) rfl fun b4 => ?_
  refine sNext ?_
  refine W.keep (F' := [(4, _), (2, _), (1, _)]) ⟨rfl, rfl, rfl, trivial⟩ ?_
  refine sSeq ?_
  refine W.region ?_
  refine OpsW.fresh (fr_alloc z33) rfl fun b5 => ?_
  refine sNext ?_
  refine sSeq ?_
  refine W.region ?_
  refine OpsW.det (det_assign rfl) rfl ?_
  refine sNext ?_
  refine sSeq ?_
  refine sSeq ?_
  refine W.region ?_
  refine OpsW.det (det_move rfl) rfl ?_
  refine sNext ?_
  refine sBlock ?_
  refine sLoop (σ := Nat) (fun i => [(8, .int .i64 (i : Nat)), (6, u64 (bor i V rr)), (5, .pointer (some ⟨b5, 0, none⟩)), (4, .pointer (some ⟨b4, 0, none⟩)), (2, .pointer (some ⟨b2, 0, none⟩)), (1, u64 0)]) (fun i => [(b5, blk (w4 (sel i D 0)) 33), (b4, blk [.int .u64 0, .int .u64 0, .int .u64 0, .int .u64 0] 33), (b2, blk (w4 (lim V)) 33)]) (fun i => i ≤ 4) (fun i => 4 - i) 0 (by decide) ⟨rfl, by rw [bor_0]; rfl, rfl, rfl, rfl, rfl, trivial⟩ (List.Sublist.refl _) ?_
  intro i hi
  refine sSeq ?_
  refine W.region ?_
  refine OpsW.det (det_lss rfl rfl) rfl ?_
  refine sNext ?_
  refine sSeq ?_
  refine W.cond rfl (fun hc9 => ?_) (fun hc9 => ?_)
  · skip
    have hlt : i < 4 := by have h := hc9; simp only [decide_eq_true_eq] at h; omega
    refine sSkip ?_
    refine sSeq ?_
    refine sBlock ?_
    refine sSeq ?_
    refine W.region ?_
    refine OpsW.det (det_move rfl) rfl ?_
    refine OpsW.det (det_assign rfl) rfl ?_
    refine sNext ?_
    refine W.keep (F' := [(7, _), (8, _), (6, _), (5, _), (4, _), (2, _), (1, _)]) ⟨rfl, rfl, rfl, rfl, rfl, rfl, rfl, trivial⟩ ?_
    refine W.draw mixed 13 [[], [], [1], [1, 2], [], [4], [4, 5], [], [1, 2, 3, 4, 5, 6, 7], [1, 2, 3, 4, 5, 6, 7, 8], [1, 2, 3, 4, 5, 6, 7, 8, 9], [1, 2, 3, 4, 5, 6, 7, 8, 9], [0, 1, 2, 3, 4, 5, 6, 7, 8, 9, 10], [0, 1, 2, 3, 4, 5, 6, 7, 8, 9, 10, 12], [0, 1, 2, 3, 4, 5, 6, 7, 8, 9, 10, 11, 12, 13]] (cl_lt (by decide)) ?_
    refine HeadR.start (cl_lt (by decide)) ?_
    refine HeadR.det rfl (fun β hβ => (det_move rfl)) ?_
    refine HeadR.det rfl (fun β hβ => (det_move rfl)) ?_
    refine HeadR.det rfl (fun β hβ => (det_indexAddr_arr u33 sz25 rfl rfl ⟨by omega, by omega⟩)) ?_
    refine HeadR.det rfl (fun β hβ => (det_loadC ty25 rfl (List.Mem.tail _ (List.Mem.tail _ (List.Mem.head _))) (at4 (f := lim V) hlt (by omega)))) ?_
    refine HeadR.det rfl (fun β hβ => (det_move rfl)) ?_
    refine HeadR.det rfl (fun β hβ => (det_indexAddr_arr u33 sz25 rfl rfl ⟨by omega, by omega⟩)) ?_
    refine HeadR.det rfl (fun β hβ => (det_loadC_ro ty25 rfl (List.Mem.tail _ (List.Mem.tail _ (List.Mem.tail _ (List.Mem.head _)))) (at4 (f := lim rr) hlt (by omega)))) ?_
    refine HeadR.det rfl (fun β hβ => (det_move rfl)) ?_
    refine HeadR.det rfl (fun β hβ => ((det_extern rfl (run_Sub64 (lim V i) (lim rr i) (bor i V rr) (bor_le _ _ _))).to (sub_pair4 hlt hD (Nat.lt_trans hV (by decide))))) ?_
    refine HeadR.det rfl (fun β hβ => (det_move rfl)) ?_
    refine HeadR.det rfl (fun β hβ => (det_extract rfl rfl)) ?_
    refine HeadR.flt rfl (fun _ _ _ _ hs => flt_extract hs rfl rfl) ?_
    refine HeadR.det rfl (fun β hβ => (det_indexAddr_arr u33 sz25 rfl rfl ⟨by omega, by omega⟩)) ?_
    refine HeadR.done ⟨by kernel_rfl, fun β hβ => ?_⟩
    refine OpsW.norm (F' := [(12, _), (13, _), (14, _), (15, _), (16, _), (17, _), (18, _), (19, _), (20, _), (11, _), (21, _), (22, _), (23, _), (7, _), (8, _), (6, _), (5, _), (4, _), (2, _), (1, _)]) (H' := [(_, _), (_, _), (_, _)]) rfl rfl ?_
    refine OpsW.store sz25 rfl rfl rfl rfl rfl (Upd.here) (put4 (f' := sel (i + 1) D 0) hlt (by omega) sel_new fun j hj => sel_old hj) ?_
    refine OpsW.det (det_assign rfl) rfl ?_
    refine sLast ?_
    refine bNext ?_
    refine W.keep (F' := [(6, _), (8, _), (5, _), (4, _), (2, _), (1, _)]) ⟨rfl, rfl, rfl, rfl, rfl, rfl, trivial⟩ ?_
    refine W.region ?_
    refine OpsW.det (det_addN (b := 1) rfl rfl (idx_ok hlt (by decide))) rfl ?_
    refine OpsW.det (det_move rfl) rfl ?_
    refine sLast ?_
    exact rEnd (i + 1) hlt ⟨rfl, rfl, rfl, rfl, rfl, rfl, trivial⟩ (List.Sublist.refl _) (step_lt hlt)
  · skip
    have hi4 : i = 4 := by have h := hc9; simp only [decide_eq_false_iff_not] at h; omega
    subst hi4
    refine sExit ?_
    refine xLoop ?_
    refine xHere ?_
    refine W.keep (F' := [(6, _), (5, _), (4, _), (2, _), (1, _)]) ⟨rfl, rfl, rfl, rfl, rfl, trivial⟩ ?_
    refine sSeq ?_
    refine sSeq ?_
    refine W.region ?_
    refine OpsW.det (det_move rfl) rfl ?_
    refine OpsW.det (det_eql rfl rfl) rfl ?_
    refine OpsW.det (det_move rfl) rfl ?_
    refine OpsW.guard_yes rfl rfl ?_
    refine OpsW.det (det_move rfl) rfl ?_
    refine OpsW.guard_yes rfl rfl ?_
    refine OpsW.det (det_eql rfl rfl) rfl ?_
    refine OpsW.det (det_pick rfl rfl) rfl ?_
    refine sNext ?_
    refine W.keep (F' := [(30, _), (5, _), (4, _), (2, _)]) ⟨rfl, rfl, rfl, rfl, trivial⟩ ?_
    refine W.cond rfl (fun hc30 => ?_) (fun hc30 => ?_)
    · skip
      have hb : bor 4 V rr = 1 := by have h := hc30; simp at h; omega
      refine sSeq ?_
      refine W.region ?_
      refine OpsW.det (det_loadA ty33 rfl (List.Mem.tail _ (List.Mem.tail _ (List.Mem.head _))) rfl) rfl ?_
      refine OpsW.store sz33 rfl rfl rfl rfl rfl (Upd.there (Upd.here)) rfl ?_
      refine sNext ?_
      refine W.keep (F' := [(4, _)]) ⟨rfl, trivial⟩ ?_
      refine sRet ?_
      exact done1 Tryd.results66 (rv_cellA ty33 rfl (List.Mem.tail _ (List.Mem.head _)) rfl) (congrArg enc4 (red_lo hb hV).symm)
    · skip
      have hb : bor 4 V rr ≠ 1 := by have h := hc30; simp at h; omega
      refine sSkip ?_
      refine sSeq ?_
      refine W.region ?_
      refine OpsW.det (det_loadA ty33 rfl (List.Mem.head _) rfl) rfl ?_
      refine OpsW.store sz33 rfl rfl rfl rfl rfl (Upd.there (Upd.here)) rfl ?_
      refine sNext ?_
      refine W.keep (F' := [(4, _)]) ⟨rfl, trivial⟩ ?_
      refine sRet ?_
      exact done1 Tryd.results66 (rv_cellA ty33 rfl (List.Mem.tail _ (List.Mem.head _)) rfl) ((congrArg (fun l : List Value => Value.agg l.toArray) (w4_congr sel_full)).trans (red_hi hD hb hV))
theorem rreduce_ok {V : Nat} {w : World} (hV : V < 2 * rr) (hG : Blocks (GH T) w) : Vm.Pure Tryd.prog 66 #[.agg #[u64 (lim (V) 0), u64 (lim (V) 1), u64 (lim (V) 2), u64 (lim (V) 3)], u64 0] w (enc4 (V % rr)) := rreduce_w_ok (D := V + R4 - rr) (Nat.sub_add_cancel (Nat.le_trans (by decide) (Nat.le_add_left R4 V))) hV hG
theorem RAdd_w_ok {m k S : Nat} (hS : S = m + k) (hm : m < rr) (hk : k < rr) {w : World} (hG : Blocks (GH T) w)  : Vm.Pure Tryd.prog 28 #[.agg #[u64 (lim (m) 0), u64 (lim (m) 1), u64 (lim (m) 2), u64 (lim (m) 3)], .agg #[u64 (lim (k) 0), u64 (lim (k) 1), u64 (lim (k) 2), u64 (lim (k) 3)]] w (enc4 (S % rr)) := by
  refine pure_of_W (n := 32) (args := [.agg #[u64 (lim (m) 0), u64 (lim (m) 1), u64 (lim (m) 2), u64 (lim (m) 3)], .agg #[u64 (lim (k) 0), u64 (lim (k) 1), u64 (lim (k) 2), u64 (lim (k) 3)]]) Tryd.func28 rfl Tryd.ntmps28 (Nat.le_of_ble_eq_true rfl) hG ?_
  refine sStart ?_
  refine sSeq ?_
  refine W.region ?_
  refine OpsW.fresh (fr_box rfl rfl) rfl fun b2 => ?_
  refine OpsW.fresh (fr_box rfl rfl) rfl fun b3 => ?_
  refine OpsW.fresh (fr_alloc z35) rfl fun b4 => ?_
  refine sNext ?_
  refine W.keep (F' := [(4, _), (3, _), (2, _)]) ⟨rfl, rfl, rfl, trivial⟩ ?_
  refine sSeq ?_
  refine W.region ?_
  refine OpsW.det (det_assign rfl) rfl ?_
  refine sNext ?_
  refine sSeq ?_
  refine sSeq ?_
  refine W.region ?_
  refine OpsW.det (det_move rfl) rfl ?_
  refine sNext ?_
  refine sBlock ?_
  refine sLoop (σ := Nat) (fun i => [(7, .int .i64 (i : Nat)), (5, u64 (car i m k)), (4, .pointer (some ⟨b4, 0, none⟩)), (3, .pointer (some ⟨b3, 0, none⟩)), (2, .pointer (some ⟨b2, 0, none⟩))]) (fun i => [(b4, blk [.int .u64 0, .int .u64 0, .int .u64 0, .int .u64 0] 35), (b3, blk (w4 (lim k)) 35), (b2, blk (w4 (sel i S m)) 35)]) (fun i => i ≤ 4) (fun i => 4 - i) 0 (by decide) ⟨rfl, by rw [car_0]; rfl, rfl, rfl, rfl, trivial⟩ (List.Sublist.refl _) ?_
  intro i hi
  refine sSeq ?_
  refine W.region ?_
  refine OpsW.det (det_lss rfl rfl) rfl ?_
  refine sNext ?_
  refine sSeq ?_
  refine W.cond rfl (fun hc8 => ?_) (fun hc8 => ?_)
  · skip
    have hlt : i < 4 := by have h := hc8; simp only [decide_eq_true_eq] at h; omega
    refine sSkip ?_
    refine sSeq ?_
    refine sBlock ?_
    refine sSeq ?_
    refine W.region ?_
    refine OpsW.det (det_move rfl) rfl ?_
    refine OpsW.det (det_assign rfl) rfl ?_
    refine sNext ?_
    refine W.keep (F' := [(6, _), (7, _), (5, _), (4, _), (3, _), (2, _)]) ⟨rfl, rfl, rfl, rfl, rfl, rfl, trivial⟩ ?_
    refine W.draw mixed 16 [[], [], [], [1, 2], [1, 2, 3], [], [], [5, 6], [5, 6, 7], [], [1, 2, 3, 4, 5, 6, 7, 8, 9], [1, 2, 3, 4, 5, 6, 7, 8, 9, 10], [1, 2, 3, 4, 5, 6, 7, 8, 9, 10, 11], [1, 2, 3, 4, 5, 6, 7, 8, 9, 10, 11], [], [0, 1, 2, 3, 4, 5, 6, 7, 8, 9, 10, 11, 12, 14], [0, 1, 2, 3, 4, 5, 6, 7, 8, 9, 10, 11, 12, 14, 15], [0, 1, 2, 3, 4, 5, 6, 7, 8, 9, 10, 11, 12, 13, 14, 15, 16]] (cl_lt (by decide)) ?_
    refine HeadR.start (cl_lt (by decide)) ?_
    refine HeadR.det rfl (fun β hβ => (det_move rfl)) ?_
    refine HeadR.det rfl (fun β hβ => (det_move rfl)) ?_
    refine HeadR.det rfl (fun β hβ => (det_fieldAddr fl35_0 rfl)) ?_
    refine HeadR.det rfl (fun β hβ => (det_indexAddr_arr u33 sz25 rfl rfl ⟨by omega, by omega⟩)) ?_
    refine HeadR.det rfl (fun β hβ => ((det_loadC ty25 rfl (List.Mem.tail _ (List.Mem.tail _ (List.Mem.head _))) (at4 (f := sel i S m) hlt (by omega))).to (congrArg u64 sel_at))) ?_
    refine HeadR.det rfl (fun β hβ => (det_move rfl)) ?_
    refine HeadR.det rfl (fun β hβ => (det_fieldAddr fl35_0 rfl)) ?_
    refine HeadR.det rfl (fun β hβ => (det_indexAddr_arr u33 sz25 rfl rfl ⟨by omega, by omega⟩)) ?_
    refine HeadR.det rfl (fun β hβ => (det_loadC ty25 rfl (List.Mem.tail _ (List.Mem.head _)) (at4 (f := lim k) hlt (by omega)))) ?_
    refine HeadR.det rfl (fun β hβ => (det_move rfl)) ?_
    refine HeadR.det rfl (fun β hβ => ((det_extern rfl (run_Add64 (lim m i) (lim k i) (car i m k) (car_le _ _ _))).to (add_pairE hS i))) ?_
    refine HeadR.det rfl (fun β hβ => (det_move rfl)) ?_
    refine HeadR.det rfl (fun β hβ => (det_extract rfl rfl)) ?_
    refine HeadR.flt rfl (fun _ _ _ _ hs => flt_extract hs rfl rfl) ?_
    refine HeadR.det rfl (fun β hβ => (det_fieldAddr fl35_0 rfl)) ?_
    refine HeadR.det rfl (fun β hβ => (det_indexAddr_arr u33 sz25 rfl rfl ⟨by omega, by omega⟩)) ?_
    refine HeadR.done ⟨by kernel_rfl, fun β hβ => ?_⟩
    refine OpsW.norm (F' := [(11, _), (12, _), (13, _), (14, _), (15, _), (16, _), (17, _), (18, _), (19, _), (20, _), (21, _), (10, _), (22, _), (23, _), (24, _), (25, _), (6, _), (7, _), (5, _), (4, _), (3, _), (2, _)]) (H' := [(_, _), (_, _), (_, _)]) rfl rfl ?_
    refine OpsW.store sz25 rfl rfl rfl rfl rfl (Upd.there (Upd.there (Upd.here))) (put4 (f' := sel (i + 1) S m) hlt (by omega) sel_new fun j hj => sel_old hj) ?_
    refine OpsW.det (det_assign rfl) rfl ?_
    refine sLast ?_
    refine bNext ?_
    refine W.keep (F' := [(5, _), (7, _), (4, _), (3, _), (2, _)]) ⟨rfl, rfl, rfl, rfl, rfl, trivial⟩ ?_
    refine W.region ?_
    refine OpsW.det (det_addN (b := 1) rfl rfl (idx_ok hlt (by decide))) rfl ?_
    refine OpsW.det (det_move rfl) rfl ?_
    refine sLast ?_
    exact rEnd (i + 1) hlt ⟨rfl, rfl, rfl, rfl, rfl, trivial⟩ (List.Sublist.refl _) (step_lt hlt)
  · skip
    have hi4 : i = 4 := by have h := hc8; simp only [decide_eq_false_iff_not] at h; omega
    subst hi4
    refine sExit ?_
    refine xLoop ?_
    refine xHere ?_
    refine W.keep (F' := [(5, _), (4, _), (2, _)]) ⟨rfl, rfl, rfl, trivial⟩ ?_
    refine sSeq ?_
    refine W.norm (F' := [(5, u64 0), (4, _), (2, _)]) (H' := [(_, _), (_, _), (b2, blk (w4 (lim S)) 35)]) (by rw [car_4 hm hk]) (by rw [w4_congr sel_full]) ?_
    refine W.region ?_
    refine OpsW.det (det_fieldAddr fl35_0 rfl) rfl ?_
    refine OpsW.det (det_loadA ty33 rfl (List.Mem.tail _ (List.Mem.tail _ (List.Mem.head _))) rfl) rfl ?_
    refine OpsW.det (det_move rfl) rfl ?_
    refine OpsW.det (det_call en66 rfl (fun w hb ho => rreduce_ok (V := S) (by omega) ho.blocks)) rfl ?_
    refine OpsW.det (det_build rfl bld35) rfl ?_
    refine OpsW.store sz35 rfl rfl rfl rfl rfl (Upd.here) rfl ?_
    refine sNext ?_
    refine W.keep (F' := [(4, _)]) ⟨rfl, trivial⟩ ?_
    refine sRet ?_
    exact done1 Tryd.results28 (rv_cellA ty35 rfl (List.Mem.head _) rfl) rfl
theorem RSub_w_ok {m k D E : Nat} (hD : D + k = m + R4) (hE : E = D + rr) (hm : m < rr) (hk : k < rr) {w : World} (hG : Blocks (GH T) w)  : Vm.Pure Tryd.prog 64 #[.agg #[u64 (lim (m) 0), u64 (lim (m) 1), u64 (lim (m) 2), u64 (lim (m) 3)], .agg #[u64 (lim (k) 0), u64 (lim (k) 1), u64 (lim (k) 2), u64 (lim (k) 3)]] w (enc4 ((m + (rr - k)) % rr)) := by
  refine pure_of_W (n := 51) (args := [.agg #[u64 (lim (m) 0), u64 (lim (m) 1), u64 (lim (m) 2), u64 (lim (m) 3)], .agg #[u64 (lim (k) 0), u64 (lim (k) 1), u64 (lim (k) 2), u64 (lim (k) 3)]]) Tryd.func64 rfl Tryd.ntmps64 (Nat.le_of_ble_eq_true rfl) hG ?_
  refine sStart ?_
  refine sSeq ?_
  refine W.region ?_
  refine OpsW.fresh (fr_box rfl rfl) rfl fun b2 => ?_
  refine OpsW.fresh (fr_box rfl rfl) rfl fun b3 => ?_
  refine OpsW.fresh (fr_alloc z35) rfl fun b4 => ?_
  refine sNext ?_
  refine W.keep (F' := [(4, _), (3, _), (2, _)]) ⟨rfl, rfl, rfl, trivial⟩ ?_
  refine sSeq ?_
  refine W.region ?_
  refine OpsW.det (det_assign rfl) rfl ?_
  refine OpsW.det (det_assign rfl) rfl ?_
  refine sNext ?_
  refine sSeq ?_
  refine sSeq ?_
  refine W.region ?_
  refine OpsW.det (det_move rfl) rfl ?_
  refine sNext ?_
  refine sBlock ?_
  refine sLoop (σ := Nat) (fun i => [(9, .int .i64 (i : Nat)), (6, u64 0), (5, u64 (bor i m k)), (4, .pointer (some ⟨b4, 0, none⟩)), (3, .pointer (some ⟨b3, 0, none⟩)), (2, .pointer (some ⟨b2, 0, none⟩))]) (fun i => [(b4, blk [.int .u64 0, .int .u64 0, .int .u64 0, .int .u64 0] 35), (b3, blk (w4 (lim k)) 35), (b2, blk (w4 (sel i D m)) 35)]) (fun i => i ≤ 4) (fun i => 4 - i) 0 (by decide) ⟨rfl, rfl, by rw [bor_0]; rfl, rfl, rfl, rfl, trivial⟩ (List.Sublist.refl _) ?_
  intro i hi
  refine sSeq ?_
  refine W.region ?_
  refine OpsW.det (det_lss rfl rfl) rfl ?_
  refine sNext ?_
  refine sSeq ?_
  refine W.cond rfl (fun hc10 => ?_) (fun hc10 => ?_)
  · skip
    have hlt : i < 4 := by have h := hc10; simp only [decide_eq_true_eq] at h; omega
    refine sSkip ?_
    refine sSeq ?_
    refine sBlock ?_
    refine sSeq ?_
    refine W.region ?_
    refine OpsW.det (det_move rfl) rfl ?_
    refine OpsW.det (det_assign rfl) rfl ?_
    refine sNext ?_
    refine W.keep (F' := [(7, _), (9, _), (6, _), (5, _), (4, _), (3, _), (2, _)]) ⟨rfl, rfl, rfl, rfl, rfl, rfl, rfl, trivial⟩ ?_
    refine W.draw mixed 16 [[], [], [], [1, 2], [1, 2, 3], [], [], [5, 6], [5, 6, 7], [], [1, 2, 3, 4, 5, 6, 7, 8, 9], [1, 2, 3, 4, 5, 6, 7, 8, 9, 10], [1, 2, 3, 4, 5, 6, 7, 8, 9, 10, 11], [1, 2, 3, 4, 5, 6, 7, 8, 9, 10, 11], [], [0, 1, 2, 3, 4, 5, 6, 7, 8, 9, 10, 11, 12, 14], [0, 1, 2, 3, 4, 5, 6, 7, 8, 9, 10, 11, 12, 14, 15], [0, 1, 2, 3, 4, 5, 6, 7, 8, 9, 10, 11, 12, 13, 14, 15, 16]] (cl_lt (by decide)) ?_
    refine HeadR.start (cl_lt (by decide)) ?_
    refine HeadR.det rfl (fun β hβ => (det_move rfl)) ?_
    refine HeadR.det rfl (fun β hβ => (det_move rfl)) ?_
    refine HeadR.det rfl (fun β hβ => (det_fieldAddr fl35_0 rfl)) ?_
    refine HeadR.det rfl (fun β hβ => (det_indexAddr_arr u33 sz25 rfl rfl ⟨by omega, by omega⟩)) ?_
    refine HeadR.det rfl (fun β hβ => ((det_loadC ty25 rfl (List.Mem.tail _ (List.Mem.tail _ (List.Mem.head _))) (at4 (f := sel i D m) hlt (by omega))).to (congrArg u64 sel_at))) ?_
    refine HeadR.det rfl (fun β hβ => (det_move rfl)) ?_
    refine HeadR.det rfl (fun β hβ => (det_fieldAddr fl35_0 rfl)) ?_
    refine HeadR.det rfl (fun β hβ => (det_indexAddr_arr u33 sz25 rfl rfl ⟨by omega, by omega⟩)) ?_
    refine HeadR.det rfl (fun β hβ => (det_loadC ty25 rfl (List.Mem.tail _ (List.Mem.head _)) (at4 (f := lim k) hlt (by omega)))) ?_
    refine HeadR.det rfl (fun β hβ => (det_move rfl)) ?_
    refine HeadR.det rfl (fun β hβ => ((det_extern rfl (run_Sub64 (lim m i) (lim k i) (bor i m k) (bor_le _ _ _))).to (sub_pair4 hlt hD (Nat.lt_trans hm (by decide))))) ?_
    refine HeadR.det rfl (fun β hβ => (det_move rfl)) ?_
    refine HeadR.det rfl (fun β hβ => (det_extract rfl rfl)) ?_
    refine HeadR.flt rfl (fun _ _ _ _ hs => flt_extract hs rfl rfl) ?_
    refine HeadR.det rfl (fun β hβ => (det_fieldAddr fl35_0 rfl)) ?_
    refine HeadR.det rfl (fun β hβ => (det_indexAddr_arr u33 sz25 rfl rfl ⟨by omega, by omega⟩)) ?_
    refine HeadR.done ⟨by kernel_rfl, fun β hβ => ?_⟩
    refine OpsW.norm (F' := [(13, _), (14, _), (15, _), (16, _), (17, _), (18, _), (19, _), (20, _), (21, _), (22, _), (23, _), (12, _), (24, _), (25, _), (26, _), (27, _), (7, _), (9, _), (6, _), (5, _), (4, _), (3, _), (2, _)]) (H' := [(_, _), (_, _), (_, _)]) rfl rfl ?_
    refine OpsW.store sz25 rfl rfl rfl rfl rfl (Upd.there (Upd.there (Upd.here))) (put4 (f' := sel (i + 1) D m) hlt (by omega) sel_new fun j hj => sel_old hj) ?_
    refine OpsW.det (det_assign rfl) rfl ?_
    refine sLast ?_
    refine bNext ?_
    refine W.keep (F' := [(5, _), (9, _), (6, _), (4, _), (3, _), (2, _)]) ⟨rfl, rfl, rfl, rfl, rfl, rfl, trivial⟩ ?_
    refine W.region ?_
    refine OpsW.det (det_addN (b := 1) rfl rfl (idx_ok hlt (by decide))) rfl ?_
    refine OpsW.det (det_move rfl) rfl ?_
    refine sLast ?_
    exact rEnd (i + 1) hlt ⟨rfl, rfl, rfl, rfl, rfl, rfl, trivial⟩ (List.Sublist.refl _) (step_lt hlt)
  · skip
    have hi4 : i = 4 := by have h := hc10; simp only [decide_eq_false_iff_not] at h; omega
    subst hi4
    refine sExit ?_
    refine xLoop ?_
    refine xHere ?_
    refine W.keep (F' := [(6, _), (5, _), (4, _), (2, _)]) ⟨rfl, rfl, rfl, rfl, trivial⟩ ?_
    refine sSeq ?_
    refine sSeq ?_
    refine W.norm (F' := [(6, u64 0), (5, _), (4, _), (2, _)]) (H' := [(_, _), (_, _), (b2, blk (w4 (lim D)) 35)]) rfl (by rw [w4_congr sel_full]) ?_
    refine W.region ?_
    refine OpsW.det (det_move rfl) rfl ?_
    refine OpsW.det (det_eql rfl rfl) rfl ?_
    refine sNext ?_
    refine W.keep (F' := [(30, _), (6, _), (4, _), (2, _)]) ⟨rfl, rfl, rfl, rfl, trivial⟩ ?_
    refine W.cond rfl (fun hc30 => ?_) (fun hc30 => ?_)
    · skip
      have hb : bor 4 m k = 1 := by have h := hc30; simp at h; omega
      refine sSeq ?_
      refine W.region ?_
      refine OpsW.det (det_move rfl) rfl ?_
      refine sNext ?_
      refine W.keep (F' := [(31, _), (6, _), (4, _), (2, _)]) ⟨rfl, rfl, rfl, rfl, trivial⟩ ?_
      refine sBlock ?_
      refine sLoop (σ := Nat) (fun i => [(31, .int .i64 (i : Nat)), (6, u64 (car i D rr)), (4, .pointer (some ⟨b4, 0, none⟩)), (2, .pointer (some ⟨b2, 0, none⟩))]) (fun i => [(b4, blk [.int .u64 0, .int .u64 0, .int .u64 0, .int .u64 0] 35), (b3, blk (w4 (lim k)) 35), (b2, blk (w4 (sel i E D)) 35)]) (fun i => i ≤ 4) (fun i => 4 - i) 0 (by decide) ⟨rfl, by rw [car_0]; rfl, rfl, rfl, trivial⟩ (List.Sublist.refl _) ?_
      intro i hi
      refine sSeq ?_
      refine W.region ?_
      refine OpsW.det (det_lss rfl rfl) rfl ?_
      refine sNext ?_
      refine sSeq ?_
      refine W.cond rfl (fun hc32 => ?_) (fun hc32 => ?_)
      · skip
        have hlt : i < 4 := by have h := hc32; simp only [decide_eq_true_eq] at h; omega
        refine sSkip ?_
        refine sSeq ?_
        refine sBlock ?_
        refine sSeq ?_
        refine W.region ?_
        refine OpsW.det (det_move rfl) rfl ?_
        refine OpsW.det (det_assign rfl) rfl ?_
        refine sNext ?_
        refine W.keep (F' := [(8, _), (31, _), (6, _), (4, _), (2, _)]) ⟨rfl, rfl, rfl, rfl, rfl, trivial⟩ ?_
        refine W.draw mixed 15 [[], [], [], [1, 2], [1, 2, 3], [], [5], [5, 6], [], [1, 2, 3, 4, 5, 6, 7, 8], [1, 2, 3, 4, 5, 6, 7, 8, 9], [1, 2, 3, 4, 5, 6, 7, 8, 9, 10], [1, 2, 3, 4, 5, 6, 7, 8, 9, 10], [], [0, 1, 2, 3, 4, 5, 6, 7, 8, 9, 10, 11, 13], [0, 1, 2, 3, 4, 5, 6, 7, 8, 9, 10, 11, 13, 14], [0, 1, 2, 3, 4, 5, 6, 7, 8, 9, 10, 11, 12, 13, 14, 15]] (cl_lt (by decide)) ?_
        refine HeadR.start (cl_lt (by decide)) ?_
        refine HeadR.det rfl (fun β hβ => (det_move rfl)) ?_
        refine HeadR.det rfl (fun β hβ => (det_move rfl)) ?_
        refine HeadR.det rfl (fun β hβ => (det_fieldAddr fl35_0 rfl)) ?_
        refine HeadR.det rfl (fun β hβ => (det_indexAddr_arr u33 sz25 rfl rfl ⟨by omega, by omega⟩)) ?_
        refine HeadR.det rfl (fun β hβ => ((det_loadC ty25 rfl (List.Mem.tail _ (List.Mem.tail _ (List.Mem.head _))) (at4 (f := sel i E D) hlt (by omega))).to (congrArg u64 sel_at))) ?_
        refine HeadR.det rfl (fun β hβ => (det_move rfl)) ?_
        refine HeadR.det rfl (fun β hβ => (det_indexAddr_arr u33 sz25 rfl rfl ⟨by omega, by omega⟩)) ?_
        refine HeadR.det rfl (fun β hβ => (det_loadC_ro ty25 rfl (List.Mem.tail _ (List.Mem.tail _ (List.Mem.tail _ (List.Mem.head _)))) (at4 (f := lim rr) hlt (by omega)))) ?_
        refine HeadR.det rfl (fun β hβ => (det_move rfl)) ?_
        refine HeadR.det rfl (fun β hβ => ((det_extern rfl (run_Add64 (lim D i) (lim rr i) (car i D rr) (car_le _ _ _))).to (add_pairE hE i))) ?_
        refine HeadR.det rfl (fun β hβ => (det_move rfl)) ?_
        refine HeadR.det rfl (fun β hβ => (det_extract rfl rfl)) ?_
        refine HeadR.flt rfl (fun _ _ _ _ hs => flt_extract hs rfl rfl) ?_
        refine HeadR.det rfl (fun β hβ => (det_fieldAddr fl35_0 rfl)) ?_
        refine HeadR.det rfl (fun β hβ => (det_indexAddr_arr u33 sz25 rfl rfl ⟨by omega, by omega⟩)) ?_
        refine HeadR.done ⟨by kernel_rfl, fun β hβ => ?_⟩
        refine OpsW.norm (F' := [(35, _), (36, _), (37, _), (38, _), (39, _), (40, _), (41, _), (42, _), (43, _), (44, _), (34, _), (45, _), (46, _), (47, _), (48, _), (8, _), (31, _), (6, _), (4, _), (2, _)]) (H' := [(_, _), (_, _), (_, _)]) rfl rfl ?_
        refine OpsW.store sz25 rfl rfl rfl rfl rfl (Upd.there (Upd.there (Upd.here))) (put4 (f' := sel (i + 1) E D) hlt (by omega) sel_new fun j hj => sel_old hj) ?_
        refine OpsW.det (det_assign rfl) rfl ?_
        refine sLast ?_
        refine bNext ?_
        refine W.keep (F' := [(6, _), (31, _), (4, _), (2, _)]) ⟨rfl, rfl, rfl, rfl, trivial⟩ ?_
        refine W.region ?_
        refine OpsW.det (det_addN (b := 1) rfl rfl (idx_ok hlt (by decide))) rfl ?_
        refine OpsW.det (det_move rfl) rfl ?_
        refine sLast ?_
        exact rEnd (i + 1) hlt ⟨rfl, rfl, rfl, rfl, trivial⟩ (List.Sublist.refl _) (step_lt hlt)
      · skip
        have hi4 : i = 4 := by have h := hc32; simp only [decide_eq_false_iff_not] at h; omega
        subst hi4
        refine sExit ?_
        refine xLoop ?_
        refine xHere ?_
        refine W.keep (F' := [(4, _), (2, _)]) ⟨rfl, rfl, trivial⟩ ?_
        refine sSeq ?_
        refine W.region ?_
        refine OpsW.det (det_loadA ty35 rfl (List.Mem.tail _ (List.Mem.tail _ (List.Mem.head _))) rfl) rfl ?_
        refine OpsW.store sz35 rfl rfl rfl rfl rfl (Upd.here) rfl ?_
        refine sNext ?_
        refine W.keep (F' := [(4, _)]) ⟨rfl, trivial⟩ ?_
        refine sRet ?_
        exact done1 Tryd.results64 (rv_cellA ty35 rfl (List.Mem.head _) rfl) ((congrArg (fun l : List Value => Value.agg l.toArray) (w4_congr sel_full)).trans (rsub_lo hD hE hb hm hk))
    · skip
      have hb : bor 4 m k ≠ 1 := by have h := hc30; simp at h; omega
      refine sSkip ?_
      refine sSeq ?_
      refine W.region ?_
      refine OpsW.det (det_loadA ty35 rfl (List.Mem.tail _ (List.Mem.tail _ (List.Mem.head _))) rfl) rfl ?_
      refine OpsW.store sz35 rfl rfl rfl rfl rfl (Upd.here) rfl ?_
      refine sNext ?_
      refine W.keep (F' := [(4, _)]) ⟨rfl, trivial⟩ ?_
      refine sRet ?_
      exact done1 Tryd.results64 (rv_cellA ty35 rfl (List.Mem.head _) rfl) (rsub_hi hD hb hm hk)

end Go.Cu
