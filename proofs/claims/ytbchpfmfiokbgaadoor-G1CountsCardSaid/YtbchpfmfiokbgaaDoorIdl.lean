/-
  Ideals of a ring without divisors of nought, and the classes of a curve's points.
  Conditions: none; plain algebra.
-/
import Derived.Test.YtbchpfmfiokbgaaDoorPol
namespace Go.Ec
open Go.Cu
open CR
set_option linter.unusedVariables false
set_option linter.unusedSimpArgs false
set_option linter.unusedSectionVars false
set_option linter.constructorNameAsVariable false

/-- An ideal. -/
structure Idl (ρ : Type) [CR ρ] where
  mem : ρ → Prop
  zero : mem 0
  add : ∀ u v, mem u → mem v → mem (u + v)
  mul : ∀ r u, mem u → mem (r * u)

section
variable {ρ : Type} [CR ρ]
theorem Idl.ext : ∀ {I J : Idl ρ}, (∀ u, I.mem u ↔ J.mem u) → I = J
  | ⟨m, _, _, _⟩, ⟨m', _, _, _⟩, h => by
    obtain rfl : m = m' := funext fun u => propext (h u)
    rfl
def imul (I J : Idl ρ) : Idl ρ where
  mem w := ∀ K : Idl ρ, (∀ u v, I.mem u → J.mem v → K.mem (u * v)) → K.mem w
  zero := fun K _ => K.zero
  add u v hu hv := fun K h => K.add u v (hu K h) (hv K h)
  mul r u hu := fun K h => K.mul r u (hu K h)
instance : Mul (Idl ρ) := ⟨imul⟩
theorem imem {I J : Idl ρ} {u v : ρ} (hu : I.mem u) (hv : J.mem v) : (I * J).mem (u * v) := fun _ h => h u v hu hv
theorem imul_le {I J K : Idl ρ} (h : ∀ u v, I.mem u → J.mem v → K.mem (u * v)) {w : ρ} (hw : (I * J).mem w) : K.mem w := hw K h
/-- What times all of J lies in K. -/
def colon (J K : Idl ρ) : Idl ρ where
  mem u := ∀ v, J.mem v → K.mem (u * v)
  zero := fun v _ => by rw [zero_mul']; exact K.zero
  add u u' h h' := fun v hv => by rw [add_mul']; exact K.add _ _ (h v hv) (h' v hv)
  mul r u h := fun v hv => by rw [mul_assoc]; exact K.mul _ _ (h v hv)
theorem imul_comm (I J : Idl ρ) : I * J = J * I := Idl.ext fun w =>
  ⟨imul_le fun u v hu hv => by rw [mul_comm]; exact imem hv hu, imul_le fun u v hu hv => by rw [mul_comm]; exact imem hv hu⟩
theorem imul_assoc (I J K : Idl ρ) : I * J * K = I * (J * K) := Idl.ext fun w =>
  ⟨imul_le fun u v hu hv => imul_le (K := colon K (I * (J * K))) (fun a b ha hb c hc => by rw [mul_assoc]; exact imem ha (imem hb hc)) hu v hv,
   imul_le fun u v hu hv => by
    rw [mul_comm]
    exact imul_le (K := colon I (I * J * K)) (fun b c hb hc a ha => by rw [mul_comm, ← mul_assoc]; exact imem (imem ha hb) hc) hv u hu⟩
/-- The multiples of f. -/
def prin (f : ρ) : Idl ρ where
  mem w := ∃ u, w = f * u
  zero := ⟨0, by rw [mul_zero']⟩
  add u v := fun ⟨a, ha⟩ ⟨b, hb⟩ => ⟨a + b, by rw [ha, hb, mul_add]⟩
  mul r u := fun ⟨a, ha⟩ => ⟨r * a, by rw [ha, ← mul_assoc, mul_comm r, mul_assoc]⟩
theorem prin_self (f : ρ) : (prin f).mem f := ⟨1, by rw [mul_one']⟩
def times_ (f : ρ) (I : Idl ρ) : Idl ρ where
  mem w := ∃ u, I.mem u ∧ w = f * u
  zero := ⟨0, I.zero, by rw [mul_zero']⟩
  add u v := fun ⟨a, ia, ha⟩ ⟨b, ib, hb⟩ => ⟨a + b, I.add _ _ ia ib, by rw [ha, hb, mul_add]⟩
  mul r u := fun ⟨a, ia, ha⟩ => ⟨r * a, I.mul _ _ ia, by rw [ha, ← mul_assoc, mul_comm r, mul_assoc]⟩
theorem mem_prin_mul {f : ρ} {I : Idl ρ} {w : ρ} : (prin f * I).mem w ↔ ∃ u, I.mem u ∧ w = f * u :=
  ⟨fun hw => imul_le (K := times_ f I) (fun u v hu hv => by obtain ⟨a, ha⟩ := hu; exact ⟨a * v, I.mul a v hv, by rw [ha, mul_assoc]⟩) hw, fun ⟨u, hu, hw⟩ => hw ▸ imem (prin_self f) hu⟩
theorem prin_mul (f g : ρ) : prin f * prin g = prin (f * g) := Idl.ext fun w => by
  rw [mem_prin_mul]
  exact ⟨fun ⟨u, ⟨a, ha⟩, hw⟩ => ⟨a, by rw [hw, ha, mul_assoc]⟩, fun ⟨a, ha⟩ => ⟨g * a, ⟨a, rfl⟩, by rw [ha, mul_assoc]⟩⟩
theorem prin_one (I : Idl ρ) : prin 1 * I = I := Idl.ext fun w => by
  rw [mem_prin_mul]
  exact ⟨fun ⟨u, hu, hw⟩ => by rw [hw, one_mul]; exact hu, fun h => ⟨w, h, by rw [one_mul]⟩⟩
/-- All combinations of two. -/
def gen2 (f g : ρ) : Idl ρ where
  mem w := ∃ a b, w = a * f + b * g
  zero := ⟨0, 0, by rw [zero_mul', zero_mul', zero_add]⟩
  add u v := fun ⟨a, b, h⟩ ⟨c, d, h'⟩ => ⟨a + c, b + d, by rw [h, h', add_mul', add_mul', add_four]⟩
  mul r u := fun ⟨a, b, h⟩ => ⟨r * a, r * b, by rw [h, mul_add, mul_assoc, mul_assoc]⟩
theorem gen2_l (f g : ρ) : (gen2 f g).mem f := ⟨1, 0, by rw [one_mul, zero_mul', add_zero']⟩
theorem gen2_r (f g : ρ) : (gen2 f g).mem g := ⟨0, 1, by rw [one_mul, zero_mul', zero_add]⟩
theorem gen2_le {f g : ρ} {K : Idl ρ} (hf : K.mem f) (hg : K.mem g) {w : ρ} (hw : (gen2 f g).mem w) : K.mem w := by
  obtain ⟨a, b, rfl⟩ := hw
  exact K.add _ _ (K.mul _ _ hf) (K.mul _ _ hg)
theorem gen2_shift (f g c : ρ) : gen2 f (g + c * f) = gen2 f g := Idl.ext fun w =>
  ⟨gen2_le (gen2_l f g) ((gen2 f g).add _ _ (gen2_r f g) ((gen2 f g).mul _ _ (gen2_l f g))),
   gen2_le (gen2_l _ _) (by
    have h := (gen2 f (g + c * f)).add _ _ (gen2_r f (g + c * f)) ((gen2 f (g + c * f)).mul (-c) _ (gen2_l f (g + c * f)))
    rwa [neg_mul', add_assoc, add_neg, add_zero'] at h)⟩
theorem mul3_le {a b c L d : ρ} (h : a * (b * c) = L * d) {w : ρ} (hw : (gen2 a L * (gen2 b L * gen2 c L)).mem w) : (prin L).mem w := by
  have hL : ∀ x, (prin L).mem (x * L) := fun x => ⟨x, by rw [mul_comm]⟩
  -- what lies in the second product is L's multiple but for multiples of b c
  have h2 : ∀ {w : ρ}, (gen2 b L * gen2 c L).mem w → (gen2 (b * c) L).mem w := fun hw => imul_le (K := gen2 (b * c) L) (fun u v hu hv => by
    obtain ⟨p, q, rfl⟩ := hu
    obtain ⟨r, s, rfl⟩ := hv
    exact ⟨p * r, p * b * s + q * r * c + q * s * L, (show (((p * b) + (q * L)) * ((r * c) + (s * L))) = (((p * r) * (b * c)) + (((((p * b) * s) + ((q * r) * c)) + ((q * s) * L)) * L)) from ring_id (fun vi_ => vget vi_ [p, q, r, s, b, c, L]) (.mul (.add (.mul (.var 0) (.var 4)) (.mul (.var 1) (.var 6))) (.add (.mul (.var 2) (.var 5)) (.mul (.var 3) (.var 6)))) (.add (.mul (.mul (.var 0) (.var 2)) (.mul (.var 4) (.var 5))) (.mul (.add (.add (.mul (.mul (.var 0) (.var 4)) (.var 3)) (.mul (.mul (.var 1) (.var 2)) (.var 5))) (.mul (.mul (.var 1) (.var 3)) (.var 6))) (.var 6))) (by kernel_rfl))⟩) hw
  refine imul_le (K := prin L) (fun u v hu hv => ?_) hw
  obtain ⟨p, q, rfl⟩ := hu
  obtain ⟨r, s, rfl⟩ := h2 hv
  exact ⟨p * r * d + p * a * s + q * r * (b * c) + q * s * L, (eq_of_sub (Eq.trans (show ((((p * a) + (q * L)) * ((r * (b * c)) + (s * L))) - (L * (((((p * r) * d) + ((p * a) * s)) + ((q * r) * (b * c))) + ((q * s) * L)))) = ((p * r) * ((a * (b * c)) - (L * d))) from ring_id (fun vi_ => vget vi_ [p, q, r, s, a, b, c, L, d]) (.sub (.mul (.add (.mul (.var 0) (.var 4)) (.mul (.var 1) (.var 7))) (.add (.mul (.var 2) (.mul (.var 5) (.var 6))) (.mul (.var 3) (.var 7)))) (.mul (.var 7) (.add (.add (.add (.mul (.mul (.var 0) (.var 2)) (.var 8)) (.mul (.mul (.var 0) (.var 4)) (.var 3))) (.mul (.mul (.var 1) (.var 2)) (.mul (.var 5) (.var 6)))) (.mul (.mul (.var 1) (.var 3)) (.var 7))))) (.mul (.mul (.var 0) (.var 2)) (.sub (.mul (.var 4) (.mul (.var 5) (.var 6))) (.mul (.var 7) (.var 8)))) (by kernel_rfl)) (lz h)))⟩
/-- Two ideals are of one class. -/
def Rel (I J : Idl ρ) : Prop := ∃ f g, f ≠ 0 ∧ g ≠ 0 ∧ prin f * I = prin g * J
theorem Rel.symm {I J : Idl ρ} : Rel I J → Rel J I := fun ⟨f, g, hf, hg, h⟩ => ⟨g, f, hg, hf, h.symm⟩
class Dom (ρ : Type) extends CR ρ where
  mul_ne : ∀ {u v : ρ}, u ≠ 0 → v ≠ 0 → u * v ≠ 0
  one_ne : (1 : ρ) ≠ 0
end
section
variable {ρ : Type} [Dom ρ]
theorem Rel.refl (I : Idl ρ) : Rel I I := ⟨1, 1, Dom.one_ne, Dom.one_ne, rfl⟩
theorem Rel.of_eq {I J : Idl ρ} (h : I = J) : Rel I J := h ▸ Rel.refl I
theorem Rel.trans {I J K : Idl ρ} : Rel I J → Rel J K → Rel I K := fun ⟨f, g, hf, hg, h⟩ ⟨f', g', hf', hg', h'⟩ =>
  ⟨f' * f, g * g', Dom.mul_ne hf' hf, Dom.mul_ne hg hg', by
    rw [← prin_mul, ← prin_mul, imul_assoc, h, ← imul_assoc, imul_comm (prin f'), imul_assoc, h', ← imul_assoc]⟩
theorem Rel.mul {I J I' J' : Idl ρ} : Rel I J → Rel I' J' → Rel (I * I') (J * J') := fun ⟨f, g, hf, hg, h⟩ ⟨f', g', hf', hg', h'⟩ =>
  ⟨f * f', g * g', Dom.mul_ne hf hf', Dom.mul_ne hg hg', by
    rw [← prin_mul, ← prin_mul, imul_assoc, ← imul_assoc (prin f'), imul_comm (prin f') I, imul_assoc I, h', ← imul_assoc, h, imul_assoc, ← imul_assoc J, imul_comm J, imul_assoc, ← imul_assoc]⟩
theorem Dom.cancel {w u v : ρ} (hw : w ≠ 0) (h : w * u = w * v) : u = v := by
  apply Classical.byContradiction
  intro hne
  refine Dom.mul_ne hw (v := u - v) (fun e => hne (eq_of_sub e)) ?_
  rw [sub_eq, mul_add, mul_comm w (-v), neg_mul', mul_comm v, h, add_neg]
end
end Go.Ec
