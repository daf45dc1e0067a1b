/-
  The curve's numbers and points as Go lays them, and when two of them are equal in Go.
  Conditions: none.
-/
import Derived.Test.YtndonmbemehefaaDoorFp2
import Derived.ChangeKeysEq
import Derived.Laws.StructEq
namespace Go.Cu
open Go Go.Vm Go.RowKit Go.Proofs
attribute [local irreducible] W OpsW Det Fresh New Writes Vm.Pure Makes Changes ExternTo BuildTo ZeroTo FieldTo IndexTo BinTo SliceTo Vm.Enters

def cellsF (x : Fq) : List Value := [u64 (lim (mont x) 0), u64 (lim (mont x) 1), u64 (lim (mont x) 2), u64 (lim (mont x) 3), u64 (lim (mont x) 4), u64 (lim (mont x) 5)]
theorem encF_eq (x : Fq) : encF x = .agg (cellsF x).toArray := rfl

theorem lim6_inj {m k : Nat} (hm : m < R6) (hk : k < R6) (h0 : lim m 0 = lim k 0) (h1 : lim m 1 = lim k 1) (h2 : lim m 2 = lim k 2) (h3 : lim m 3 = lim k 3) (h4 : lim m 4 = lim k 4) (h5 : lim m 5 = lim k 5) : m = k := by
  rw [← val_lim6 hm, ← val_lim6 hk, h0, h1, h2, h3, h4, h5]
theorem mont_inj {x y : Fq} (h : mont x = mont y) : x = y := by
  have h1 : ∀ z : Fq, mont z * inv_pp % pp = z.val := fun z => by
    unfold mont
    rw [Nat.mod_mul_mod, Nat.mul_assoc, Nat.mul_mod, show R6 * inv_pp % pp = 1 from by decide +kernel, Nat.mul_one, Nat.mod_mod, Nat.mod_eq_of_lt z.lt]
  exact Zp.ext (by rw [← h1 x, h, h1 y])
theorem mont_R6 (x : Fq) : mont x < R6 := Nat.lt_trans (mont_lt x) (by decide)

/-- In every world the two are equal in Go just if b. -/
def EqTo (P : Program) (d : Nat) (t : TypeId) (u v : Value) (b : Bool) : Prop := ∀ w, (Op.equalIn d t u v).run P w = .ok b w

theorem eq_items {P : Program} {d e : Nat} (he : P.plainKey e = true) (hu : P.underlying e = some (.int .u64)) {xs ys : Array Value} {f g : Nat → Nat} (w : World) : ∀ (is : List Nat),
    (∀ i ∈ is, xs[i * 1]? = some (u64 (f i)) ∧ ys[i * 1]? = some (u64 (g i))) → (Op.eqItems (d + 1) e 1 xs ys is).run P w = .ok (is.all fun i => f i == g i) w
  | [], _ => by simp [Op.eqItems]
  | i :: is, h => by
    obtain ⟨h1, h2⟩ := h i (by simp)
    have ih := eq_items (d := d) he hu w is (fun j hj => h j (by simp [hj]))
    simp only [Op.eqItems, Sem.run_bind, run_part_plain w he h1, run_part_plain w he h2, Result.andThen_ok, u64, run_equalIn_int w d e .u64 .u64 _ _ hu, List.all_cons]
    by_cases hfg : f i = g i
    · simp [hfg, ih]
    · have : ((f i : Int) == (g i : Int)) = false := by simp; omega
      have h' : (f i == g i) = false := by simp [hfg]
      simp [this, h']
theorem eq_one {P : Program} {d t off ft : Nat} {nm : String} {xs ys : Array Value} {a b : Value} {r : Bool} (hu : P.underlying t = some (.struct (P.fieldsOf t))) (hs : P.stoodInHeld t = false)
    (hf : (P.fieldsOf t).toList.map (fun f => (f.name, f.type, f.offset)) = [(nm, ft, off)]) (hn : nm ≠ "_")
    (h1 : ∀ w, (part ft xs off).run P w = .ok a w) (h2 : ∀ w, (part ft ys off).run P w = .ok b w) (h : EqTo P d ft a b r) : EqTo P (d + 1) t (.agg xs) (.agg ys) r := fun w => by
  rw [run_equalIn_struct w d t xs ys hu hs]
  cases hl : (P.fieldsOf t).toList with
  | nil => simp [hl] at hf
  | cons f l =>
    simp only [hl, List.map_cons, List.cons.injEq, Prod.mk.injEq, List.map_eq_nil_iff] at hf
    obtain ⟨⟨rfl, rfl, rfl⟩, rfl⟩ := hf
    simp only [Op.eqFields, hn, ne_eq, not_false_eq_true, if_true, Sem.run_bind, h1, h2, h w, Result.andThen_ok]
    cases r <;> simp
theorem eq_two {P : Program} {d t off ft off' ft' : Nat} {nm nm' : String} {xs ys : Array Value} {a b a' b' : Value} {r r' : Bool} (hu : P.underlying t = some (.struct (P.fieldsOf t))) (hs : P.stoodInHeld t = false)
    (hf : (P.fieldsOf t).toList.map (fun f => (f.name, f.type, f.offset)) = [(nm, ft, off), (nm', ft', off')]) (hn : nm ≠ "_") (hn' : nm' ≠ "_")
    (h1 : ∀ w, (part ft xs off).run P w = .ok a w) (h2 : ∀ w, (part ft ys off).run P w = .ok b w) (h : EqTo P d ft a b r)
    (h1' : ∀ w, (part ft' xs off').run P w = .ok a' w) (h2' : ∀ w, (part ft' ys off').run P w = .ok b' w) (h' : EqTo P d ft' a' b' r') : EqTo P (d + 1) t (.agg xs) (.agg ys) (r && r') := fun w => by
  rw [run_equalIn_struct w d t xs ys hu hs]
  cases hl : (P.fieldsOf t).toList with
  | nil => simp [hl] at hf
  | cons f l =>
    cases l with
    | nil => simp [hl] at hf
    | cons f' l =>
      simp only [hl, List.map_cons, List.cons.injEq, Prod.mk.injEq, List.map_eq_nil_iff] at hf
      obtain ⟨⟨rfl, rfl, rfl⟩, ⟨rfl, rfl, rfl⟩, rfl⟩ := hf
      have hr := h w
      have hr' := h' w
      simp only [Op.eqFields, hn, hn', ne_eq, not_false_eq_true, if_true, Sem.run_bind, h1, h2, hr, Result.andThen_ok]
      cases r
      · simp
      · simp only [h1', h2', hr', Bool.not_true, Bool.false_eq_true, if_false, Sem.run_bind, Result.andThen_ok]
        cases r' <;> simp

theorem eqTo27 (d m k : Nat) : EqTo Tryd.prog (d + 2) 27 (enc6 m) (enc6 k) ((List.range 6).all fun i => lim m i == lim k i) := fun w => by
  unfold enc6
  obtain ⟨i, hi⟩ : ∃ i, Tryd.prog.info? 26 = some i := by
    have := sz26
    unfold sizeIn at this
    cases h : Tryd.prog.info? 26 with
    | none => simp [h] at this
    | some i => exact ⟨i, rfl⟩
  rw [run_equalIn_array w (d + 1) _ _ (show Tryd.prog.underlying 27 = some (.array 6 26) by kernel_rfl) hi, show Tryd.prog.cellsOf 26 = 1 by kernel_rfl]
  refine eq_items (show Tryd.prog.plainKey 26 = true by kernel_rfl) (show Tryd.prog.underlying 26 = some (.int .u64) by kernel_rfl) w _ fun i hi => ?_
  have : i < 6 := by simpa using hi
  have : i = 0 ∨ i = 1 ∨ i = 2 ∨ i = 3 ∨ i = 4 ∨ i = 5 := by omega
  rcases this with rfl | rfl | rfl | rfl | rfl | rfl <;> exact ⟨rfl, rfl⟩
theorem eqTo29 (d : Nat) (x y : Fq) : EqTo Tryd.prog (d + 3) 29 (encF x) (encF y) (decide (x = y)) := by
  have h := eqTo27 d (mont x) (mont y)
  have hb : ((List.range 6).all fun i => lim (mont x) i == lim (mont y) i) = decide (x = y) := by
    rw [Bool.eq_iff_iff, decide_eq_true_eq, List.all_eq_true]
    constructor
    · intro h
      have h' : ∀ i, i < 6 → lim (mont x) i = lim (mont y) i := fun i hi => by simpa using h i (by simpa using hi)
      exact mont_inj (lim6_inj (mont_R6 x) (mont_R6 y) (h' 0 (by decide)) (h' 1 (by decide)) (h' 2 (by decide)) (h' 3 (by decide)) (h' 4 (by decide)) (h' 5 (by decide)))
    · intro h; subst h; simp
  rw [hb] at h
  exact eq_one (by kernel_rfl) (by kernel_rfl) (nm := "v") (ft := 27) (off := 0) (by kernel_rfl) (by decide) (fun w => by kernel_rfl) (fun w => by kernel_rfl) h
theorem bin_of_eq {P : Program} {t : TypeId} {x y : Operand} {xs ys : Array Value} {b : Bool} (hg : P.eqGuardType P.depth t = false) (h : EqTo P 10000 t (.agg xs) (.agg ys) b) : BinTo P .eql t x y (.agg xs) (.agg ys) (.bool b) :=
  BinTo.of (fun w => run_eqGuard_agg w .eql t x y xs ys hg) (fun w => by rw [run_eql_struct, h w]; rfl)
theorem bin_of_ne {P : Program} {t : TypeId} {x y : Operand} {xs ys : Array Value} {b : Bool} (hg : P.eqGuardType P.depth t = false) (h : EqTo P 10000 t (.agg xs) (.agg ys) b) : BinTo P .neq t x y (.agg xs) (.agg ys) (.bool (!b)) :=
  BinTo.of (fun w => run_eqGuard_agg w .neq t x y xs ys hg) (fun w => by rw [run_neq_struct, h w]; rfl)

/-- A point, by its two coordinates; the point at nought is (0, 0). -/
abbrev Pt := Fq × Fq
def encP (p : Pt) : Value := .agg (cellsF p.1 ++ cellsF p.2).toArray
theorem eqTo31 (d : Nat) (p q : Pt) : EqTo Tryd.prog (d + 4) 31 (encP p) (encP q) (decide (p = q)) := by
  have h := eq_two (P := Tryd.prog) (d := d + 3) (t := 31) (xs := (cellsF p.1 ++ cellsF p.2).toArray) (ys := (cellsF q.1 ++ cellsF q.2).toArray) (by kernel_rfl) (by kernel_rfl) (nm := "X") (ft := 29) (off := 0) (nm' := "Y") (ft' := 29) (off' := 6) (by kernel_rfl) (by decide) (by decide)
    (fun w => by kernel_rfl) (fun w => by kernel_rfl) (eqTo29 d p.1 q.1) (fun w => by kernel_rfl) (fun w => by kernel_rfl) (eqTo29 d p.2 q.2)
  have hb : (decide (p.1 = q.1) && decide (p.2 = q.2)) = decide (p = q) := by
    rw [Bool.eq_iff_iff]; simp [Prod.ext_iff]
  rw [hb] at h
  exact h
theorem eq29 {x y : Operand} {a b : Fq} : BinTo Tryd.prog .eql 29 x y (encF a) (encF b) (.bool (decide (a = b))) := bin_of_eq (by kernel_rfl) (eqTo29 9997 a b)
theorem ne29 {x y : Operand} {a b : Fq} : BinTo Tryd.prog .neq 29 x y (encF a) (encF b) (.bool (!decide (a = b))) := bin_of_ne (by kernel_rfl) (eqTo29 9997 a b)
theorem eq31 {x y : Operand} {a b : Pt} : BinTo Tryd.prog .eql 31 x y (encP a) (encP b) (.bool (decide (a = b))) := bin_of_eq (by kernel_rfl) (eqTo31 9996 a b)
theorem ne31 {x y : Operand} {a b : Pt} : BinTo Tryd.prog .neq 31 x y (encP a) (encP b) (.bool (!decide (a = b))) := bin_of_ne (by kernel_rfl) (eqTo31 9996 a b)
end Go.Cu
