/-
  Part 11 of the joined texts of the curves' laws: The field with i: what its roots are.
  Conditions: those that each theorem states.
-/
import Derived.Test.YtndonmbemehefaaDoorQ6
import Derived.Test.YtndonmbemehefaaDoorQ9
import Derived.Test.YtndonmbemehefaaDoorQ8
import Derived.Test.YtndonmbemehefaaDoorQ2
import Derived.Test.YtndonmbemehefaaDoorQ10
/- The field with i: what its roots are. -/
namespace Go.Cw
open Go.Cu Go.Ec
open Go Go.Vm
set_option linter.unusedVariables false
set_option linter.unusedSimpArgs false
set_option linter.unusedSectionVars false
open CR
/-! ### Roots -/
theorem sqrtF_ok {x : Fq} (h : (sqrtF x).2 = true) : (sqrtF x).1 * (sqrtF x).1 = x := by
  unfold sqrtF at h ⊢
  split at h
  · rename_i hr; rw [if_pos hr]; exact hr
  · cases h
theorem root_sq (x : Fq) : root x * root x = x * pw x ((pp - 1) / 2) := by
  unfold root
  rw [← pw_add, show ppq + ppq = (pp - 1) / 2 + 1 from by decide +kernel, pw, mul_comm]
theorem half_pm {x : Fq} (hx : x ≠ 0) : pw x ((pp - 1) / 2) = 1 ∨ pw x ((pp - 1) / 2) = -1 := by
  have h := fermat prime_pp hx
  rw [show pp - 1 = 2 * ((pp - 1) / 2) from by decide +kernel, pw_two] at h
  generalize pw x ((pp - 1) / 2) = t at h
  by_cases h1 : t = 1
  · exact .inl h1
  · right
    apply Classical.byContradiction
    intro h2
    refine Fld.mul_ne (a := t - 1) (b := t + 1) (fun e => h1 (eq_of_sub e)) (fun e => h2 (eq_of_sub (Eq.trans (show (t - (-1)) = (1 * ((t + 1) - 0)) from ring_id (fun vi_ => vget vi_ [t]) (.sub (.var 0) (.neg .one)) (.mul .one (.sub (.add (.var 0) .one) .zero)) (by kernel_rfl)) (lz e)))) ?_
    exact (eq_of_sub (Eq.trans (show (((t - 1) * (t + 1)) - 0) = (1 * ((t * t) - 1)) from ring_id (fun vi_ => vget vi_ [t]) (.sub (.mul (.sub (.var 0) .one) (.add (.var 0) .one)) .zero) (.mul .one (.sub (.mul (.var 0) (.var 0)) .one)) (by kernel_rfl)) (lz h)))
theorem pw_neg_one : pw (-1 : Fq) ((pp - 1) / 2) = -1 := by
  obtain ⟨k, hk⟩ : ∃ k, (pp - 1) / 2 = 2 * k + 1 := ⟨(pp - 3) / 4, by decide +kernel⟩
  rw [hk, pw, pw_mul, show pw (-1 : Fq) 2 = 1 from by decide +kernel, one_pw, one_mul]
/-- Of a number and its negative one has a root. -/
theorem sqrtF_neg {x : Fq} (h : (sqrtF x).2 = false) : (sqrtF (0 - x)).1 * (sqrtF (0 - x)).1 = 0 - x := by
  have hr : root x * root x ≠ x := fun e => by
    unfold sqrtF at h
    rw [if_pos e] at h; cases h
  have hx : x ≠ 0 := by
    rintro rfl
    exact hr (by rw [root_sq, zero_mul'])
  have ht : pw x ((pp - 1) / 2) = -1 := (half_pm hx).resolve_left fun e => hr (by rw [root_sq, e, mul_one'])
  have hn : root (0 - x) * root (0 - x) = 0 - x := by
    rw [root_sq, show (0 - x : Fq) = -1 * x from (show (0 - x) = ((-1) * x) from ring_id (fun vi_ => vget vi_ [x]) (.sub .zero (.var 0)) (.mul (.neg .one) (.var 0)) (by kernel_rfl)), mul_pw, pw_neg_one, ht]
    exact (show (((-1) * x) * ((-1) * (-1))) = ((-1) * x) from ring_id (fun vi_ => vget vi_ [x]) (.mul (.mul (.neg .one) (.var 0)) (.mul (.neg .one) (.neg .one))) (.mul (.neg .one) (.var 0)) (by kernel_rfl))
  unfold sqrtF
  rw [if_pos hn]
  exact hn
theorem sq_a {r a b : Fq} (hr : r * r = a) (hb : b = 0) : (⟨r, 0⟩ * ⟨r, 0⟩ : Fq2) = ⟨a, b⟩ := by
  subst hb
  refine Fq2.ext ?_ ?_
  · show r * r - 0 * 0 = a
    rw [hr]; exact (show (a - (0 * 0)) = a from ring_id (fun vi_ => vget vi_ [a]) (.sub (.var 0) (.mul .zero .zero)) (.var 0) (by kernel_rfl))
  · show (r + 0) * (r + 0) - r * r - 0 * 0 = 0
    exact (show ((((r + 0) * (r + 0)) - (r * r)) - (0 * 0)) = 0 from ring_id (fun vi_ => vget vi_ [r]) (.sub (.sub (.mul (.add (.var 0) .zero) (.add (.var 0) .zero)) (.mul (.var 0) (.var 0))) (.mul .zero .zero)) .zero (by kernel_rfl))
theorem sq_b {r a b : Fq} (hr : r * r = 0 - a) (hb : b = 0) : (⟨0, r⟩ * ⟨0, r⟩ : Fq2) = ⟨a, b⟩ := by
  subst hb
  refine Fq2.ext ?_ ?_
  · show 0 * 0 - r * r = a
    rw [hr]; exact (show ((0 * 0) - (0 - a)) = a from ring_id (fun vi_ => vget vi_ [a]) (.sub (.mul .zero .zero) (.sub .zero (.var 0))) (.var 0) (by kernel_rfl))
  · show (0 + r) * (0 + r) - 0 * 0 - r * r = 0
    exact (show ((((0 + r) * (0 + r)) - (0 * 0)) - (r * r)) = 0 from ring_id (fun vi_ => vget vi_ [r]) (.sub (.sub (.mul (.add .zero (.var 0)) (.add .zero (.var 0))) (.mul .zero .zero)) (.mul (.var 0) (.var 0))) .zero (by kernel_rfl))
theorem sq_c {a b n h A v : Fq} (hh : h + h = 1) (hn : n * n = a * a + b * b) (hA : A * A = (a + n) * h) (hv : A * v = 1) : (⟨A, b * h * v⟩ * ⟨A, b * h * v⟩ : Fq2) = ⟨a, b⟩ := by
  refine Fq2.ext ?_ ?_
  · show A * A - b * h * v * (b * h * v) = a
    exact (eq_of_sub (Eq.trans (show (((A * A) - (((b * h) * v) * ((b * h) * v))) - a) = (((((((h * h) * v) * v) * ((n * n) - ((a * a) + (b * b)))) + ((((((n - a) * h) * v) * v) + 1) * ((A * A) - ((a + n) * h)))) + ((-(((n - a) * h) * ((A * v) + 1))) * ((A * v) - 1))) + (a * ((h + h) - 1))) from ring_id (fun vi_ => vget vi_ [a, b, n, h, A, v]) (.sub (.sub (.mul (.var 4) (.var 4)) (.mul (.mul (.mul (.var 1) (.var 3)) (.var 5)) (.mul (.mul (.var 1) (.var 3)) (.var 5)))) (.var 0)) (.add (.add (.add (.mul (.mul (.mul (.mul (.var 3) (.var 3)) (.var 5)) (.var 5)) (.sub (.mul (.var 2) (.var 2)) (.add (.mul (.var 0) (.var 0)) (.mul (.var 1) (.var 1))))) (.mul (.add (.mul (.mul (.mul (.sub (.var 2) (.var 0)) (.var 3)) (.var 5)) (.var 5)) .one) (.sub (.mul (.var 4) (.var 4)) (.mul (.add (.var 0) (.var 2)) (.var 3))))) (.mul (.neg (.mul (.mul (.sub (.var 2) (.var 0)) (.var 3)) (.add (.mul (.var 4) (.var 5)) .one))) (.sub (.mul (.var 4) (.var 5)) .one))) (.mul (.var 0) (.sub (.add (.var 3) (.var 3)) .one))) (by kernel_rfl)) (lz2 (lz2 (lz2 (lz hn) (lz hA)) (lz hv)) (lz hh))))
  · show (A + b * h * v) * (A + b * h * v) - A * A - b * h * v * (b * h * v) = b
    exact (eq_of_sub (Eq.trans (show (((((A + ((b * h) * v)) * (A + ((b * h) * v))) - (A * A)) - (((b * h) * v) * ((b * h) * v))) - b) = (((b * (h + h)) * ((A * v) - 1)) + (b * ((h + h) - 1))) from ring_id (fun vi_ => vget vi_ [b, h, A, v]) (.sub (.sub (.sub (.mul (.add (.var 2) (.mul (.mul (.var 0) (.var 1)) (.var 3))) (.add (.var 2) (.mul (.mul (.var 0) (.var 1)) (.var 3)))) (.mul (.var 2) (.var 2))) (.mul (.mul (.mul (.var 0) (.var 1)) (.var 3)) (.mul (.mul (.var 0) (.var 1)) (.var 3)))) (.var 0)) (.add (.mul (.mul (.var 0) (.add (.var 1) (.var 1))) (.sub (.mul (.var 2) (.var 3)) .one)) (.mul (.var 0) (.sub (.add (.var 1) (.var 1)) .one))) (by kernel_rfl)) (lz2 (lz hv) (lz hh))))
theorem s2from_ok {a b h : Fq} (hh : h + h = 1) : ∀ (f : Nat) (n : Fq), n * n = a * a + b * b → (s2from ⟨a, b⟩ h f n).2 = true → (s2from ⟨a, b⟩ h f n).1 * (s2from ⟨a, b⟩ h f n).1 = ⟨a, b⟩
  | 0, n, _, h2 => by cases h2
  | f + 1, n, hn, h2 => by
    by_cases hc : (sqrtF ((a + n) * h)).2 = true ∧ (sqrtF ((a + n) * h)).1 ≠ 0
    · have e : s2from ⟨a, b⟩ h (f + 1) n = (⟨(sqrtF ((a + n) * h)).1, b * h * Cu.inv (sqrtF ((a + n) * h)).1⟩, true) := if_pos hc
      rw [e]
      exact sq_c hh hn (sqrtF_ok hc.1) (Fld.mul_finv _ hc.2)
    · have e : s2from ⟨a, b⟩ h (f + 1) n = s2from ⟨a, b⟩ h f (0 - n) := if_neg hc
      rw [e] at h2 ⊢
      exact s2from_ok hh f (0 - n) (eq_of_sub (Eq.trans (show (((0 - n) * (0 - n)) - ((a * a) + (b * b))) = (1 * ((n * n) - ((a * a) + (b * b)))) from ring_id (fun vi_ => vget vi_ [a, b, n]) (.sub (.mul (.sub .zero (.var 2)) (.sub .zero (.var 2))) (.add (.mul (.var 0) (.var 0)) (.mul (.var 1) (.var 1)))) (.mul .one (.sub (.mul (.var 2) (.var 2)) (.add (.mul (.var 0) (.var 0)) (.mul (.var 1) (.var 1))))) (by kernel_rfl)) (lz hn))) h2
theorem two_inv : Cu.inv (Zp.of 2) + Cu.inv (Zp.of 2) = (1 : Fq) := by
  have h2 := Fld.mul_finv (Zp.of 2 : Fq) (by decide +kernel)
  have h2 : (Zp.of 2 : Fq) * Cu.inv (Zp.of 2) = 1 := h2
  rw [← h2, show (Zp.of 2 : Fq) = 1 + 1 from by decide +kernel]
  obtain ⟨k, hk⟩ : ∃ k : Fq, k = Cu.inv (1 + 1) := ⟨_, rfl⟩
  rw [← hk]
  exact (show (k + k) = ((1 + 1) * k) from ring_id (fun vi_ => vget vi_ [k]) (.add (.var 0) (.var 0)) (.mul (.add .one .one) (.var 0)) (by kernel_rfl))
theorem sqrt2_ok {x : Fq2} (h : (sqrt2 x).2 = true) : (sqrt2 x).1 * (sqrt2 x).1 = x := by
  obtain ⟨a, b⟩ := x
  by_cases hb : b = 0
  · by_cases h1 : (sqrtF a).2 = true
    · have e : sqrt2 ⟨a, b⟩ = (⟨(sqrtF a).1, 0⟩, true) := (if_pos hb).trans (if_pos h1)
      rw [e]
      exact sq_a (sqrtF_ok h1) hb
    · have e : sqrt2 ⟨a, b⟩ = (⟨0, (sqrtF (0 - a)).1⟩, true) := (if_pos hb).trans (if_neg h1)
      rw [e]
      exact sq_b (sqrtF_neg (by simpa using h1)) hb
  · by_cases h1 : (sqrtF (norm2 ⟨a, b⟩)).2 = true
    · have e : sqrt2 ⟨a, b⟩ = s2from ⟨a, b⟩ (Cu.inv (Zp.of 2)) 2 (sqrtF (norm2 ⟨a, b⟩)).1 := (if_neg hb).trans (if_pos h1)
      rw [e] at h ⊢
      exact s2from_ok two_inv 2 _ (sqrtF_ok h1) h
    · have e : sqrt2 ⟨a, b⟩ = (0, false) := (if_neg hb).trans (if_neg h1)
      rw [e] at h; cases h
end Go.Cw

/- The point of the second group that bytes are: the walk. Conditions: none but a length. -/
namespace Go.Cw
open Go Go.Vm Go.RowKit Go.Proofs Go.Cu
attribute [local irreducible] W OpsW Det Fresh New Writes Vm.Pure Makes Changes ExternTo BuildTo ZeroTo FieldTo IndexTo BinTo SliceTo Vm.Enters
set_option linter.unusedVariables false
set_option linter.unusedSimpArgs false
variable {T : Nat → TypeId × Nat × Nat}
def rx (l : List Nat) : Fq2 × Int := read2 ((cl l).take 96)
def ry (l : List Nat) : Fq2 × Int := read2 ((cl l).drop 96)
def rs (l : List Nat) : Fq2 × Bool := sqrt2 ((rx l).1 * (rx l).1 * (rx l).1 + small 4 4)
/-- The last tests of a point. -/
def fin1 (p : Pt) (ok : Bool) : Pt × Int := if ok = false ∨ p = (0, 0) then ((0, 0), 13) else if inB p = false then ((0, 0), 14) else (p, 0)
/-- The point of the second group that bytes are, and the error. -/
def rd1 (l : List Nat) : Pt × Int :=
  if (markE l 96).1 ≠ 0 then ((0, 0), (markE l 96).1) else if fB (b0 l) = true then ((0, 0), 0) else if (rx l).2 ≠ 0 then ((0, 0), (rx l).2)
  else if 96 < l.length then (if (ry l).2 ≠ 0 then ((0, 0), (ry l).2) else fin1 ((rx l).1, (ry l).1) (onB ((rx l).1, (ry l).1)))
  else fin1 ((rx l).1, if large2 (rs l).1 ≠ lB (b0 l) then 0 - (rs l).1 else (rs l).1) (rs l).2
theorem rd1_mark {l : List Nat} (h : (markE l 96).1 ≠ 0) : rd1 l = ((0, 0), (markE l 96).1) := if_pos h
theorem rd1_far {l : List Nat} (h : (markE l 96).1 = 0) (h2 : fB (b0 l) = true) : rd1 l = ((0, 0), 0) := by unfold rd1; rw [if_neg (fun h3 => h3 h), if_pos h2]
theorem rx_eq (l : List Nat) : rx l = read2 ((cl l).take 96) := rfl
theorem ry_eq (l : List Nat) : ry l = read2 ((cl l).drop 96) := rfl
theorem rs_eq {l : List Nat} {X : Fq2 × Int} (h : X = rx l) : rs l = sqrt2 (X.1 * X.1 * X.1 + small 4 4) := by subst h; rfl
theorem read_to {X : Fq2 × Int} {r : Fq2 × Int} (h : X = r) : Value.tuple #[encF r.1, .int .i64 r.2] = .tuple #[encF X.1, .int .i64 X.2] := by rw [h]
theorem sqrt_to {X : Fq2 × Bool} {r : Fq2 × Bool} (h : X = r) : Value.tuple #[encF r.1, .bool r.2] = .tuple #[encF X.1, .bool X.2] := by rw [h]
theorem rd1_x {l : List Nat} {X : Fq2 × Int} (hX : X = rx l) (h : (markE l 96).1 = 0) (h2 : fB (b0 l) = false) (h3 : X.2 ≠ 0) : rd1 l = ((0, 0), X.2) := by subst hX; unfold rd1; rw [if_neg (fun h3 => h3 h), if_neg (by rw [h2]; decide), if_pos h3]
theorem rd1_y {l : List Nat} {X Y : Fq2 × Int} (hX : X = rx l) (hY : Y = ry l) (h : (markE l 96).1 = 0) (h2 : fB (b0 l) = false) (h3 : X.2 = 0) (h4 : 96 < l.length) (h5 : Y.2 ≠ 0) : rd1 l = ((0, 0), Y.2) := by
  subst hX; subst hY; unfold rd1; rw [if_neg (fun h3 => h3 h), if_neg (by rw [h2]; decide), if_neg (fun h => h h3), if_pos h4, if_pos h5]
theorem rd1_long {l : List Nat} {X Y : Fq2 × Int} (hX : X = rx l) (hY : Y = ry l) (h : (markE l 96).1 = 0) (h2 : fB (b0 l) = false) (h3 : X.2 = 0) (h4 : 96 < l.length) (h5 : Y.2 = 0) : rd1 l = fin1 (X.1, Y.1) (onB (X.1, Y.1)) := by
  subst hX; subst hY; unfold rd1; rw [if_neg (fun h3 => h3 h), if_neg (by rw [h2]; decide), if_neg (fun h => h h3), if_pos h4, if_neg (fun h => h h5)]
theorem rd1_neg {l : List Nat} {X : Fq2 × Int} {sq : Fq2 × Bool} (hX : X = rx l) (hs : sq = sqrt2 (X.1 * X.1 * X.1 + small 4 4)) (h : (markE l 96).1 = 0) (h2 : fB (b0 l) = false) (h3 : X.2 = 0) (h4 : ¬ 96 < l.length) (h5 : large2 sq.1 ≠ lB (b0 l)) : rd1 l = fin1 (X.1, 0 - sq.1) sq.2 := by
  rw [← rs_eq hX] at hs
  subst hX; subst hs; unfold rd1; rw [if_neg (fun h3 => h3 h), if_neg (by rw [h2]; decide), if_neg (fun h => h h3), if_neg h4, if_pos h5]
theorem rd1_pos {l : List Nat} {X : Fq2 × Int} {sq : Fq2 × Bool} (hX : X = rx l) (hs : sq = sqrt2 (X.1 * X.1 * X.1 + small 4 4)) (h : (markE l 96).1 = 0) (h2 : fB (b0 l) = false) (h3 : X.2 = 0) (h4 : ¬ 96 < l.length) (h5 : large2 sq.1 = lB (b0 l)) : rd1 l = fin1 (X.1, sq.1) sq.2 := by
  rw [← rs_eq hX] at hs
  subst hX; subst hs; unfold rd1; rw [if_neg (fun h3 => h3 h), if_neg (by rw [h2]; decide), if_neg (fun h => h h3), if_neg h4, if_neg (fun h => h h5)]
theorem fin_no {p : Pt} : fin1 p false = ((0, 0), 13) := if_pos (.inl rfl)
theorem fin_zero {p : Pt} {ok : Bool} (h : p = (0, 0)) : fin1 p ok = ((0, 0), 13) := if_pos (.inr h)
theorem fin_grp {p : Pt} (h : p ≠ (0, 0)) (h2 : inB p = false) : fin1 p true = ((0, 0), 14) := by unfold fin1; rw [if_neg (fun h3 => h3.elim (fun h => by cases h) h), if_pos h2]
theorem fin_ok {p : Pt} (h : p ≠ (0, 0)) (h2 : inB p = true) : fin1 p true = (p, 0) := by unfold fin1; rw [if_neg (fun h3 => h3.elim (fun h => by cases h) h), if_neg (by rw [h2]; decide)]
theorem rd_post {l : List Nat} {p : Pt} {e : Int} (h : rd1 l = (p, e)) : Value.tuple #[encP p, .int .i64 e] = .tuple #[encP (rd1 l).1, .int .i64 (rd1 l).2] := by rw [h]
attribute [local irreducible] sqrt2 read2 inB

theorem en30 : Vm.Enters Tryd.prog 30 := Vm.Enters.of fun _ _ => by kernel_rfl
theorem en31 : Vm.Enters Tryd.prog 31 := Vm.Enters.of fun _ _ => by kernel_rfl
theorem en39 : Vm.Enters Tryd.prog 39 := Vm.Enters.of fun _ _ => by kernel_rfl
set_option maxHeartbeats 8000000 in
set_option maxRecDepth 100000 in
theorem ReadG2_ok {G' : Hp} {v : Value} {l : List Nat} (hB : Bs G' v l) (hlen0 : l.length ≤ 1000000) {w : World} (hG : Blocks (G' ++ GH T) w)  : Vm.Pure Tryd.prog 24 #[v] w (.tuple #[encP (rd1 l).1, .int .i64 (rd1 l).2]) := by
  obtain ⟨ad, cap, hvv⟩ := hB.shape
  refine pure_of_W (n := 87) (args := [v]) Tryd.func24 rfl Tryd.ntmps24 (Nat.le_of_ble_eq_true rfl) hG ?_
  refine sStart ?_
  refine sSeq ?_
  subst hvv
  refine W.region ?_
  refine OpsW.fresh (fr_alloc z48r) rfl fun b2 => ?_
  refine OpsW.det (det_assign rfl) rfl ?_
  refine sNext ?_
  refine W.keep (F' := [(2, _), (0, _)]) ⟨rfl, rfl, trivial⟩ ?_
  refine sSeq ?_
  rcases Decidable.em ((markE l 96).1 = 0) with hE | hE
  · skip
    refine W.region ?_
    refine OpsW.det (det_move rfl) rfl ?_
    refine OpsW.new (new_call en53 rfl (fun w hb ho => chead_ok_ok (G' := G') (n := 96) hB (by decide) (by decide) hlen0 hE ho.blocks)) rfl fun p14 hp14 => ?_
    refine OpsW.norm (F' := [(14, _), (13, _), (2, _), (0, _)]) (H' := [(p14.1, blk (bcells (cl l) ++ p14.2.2) 5), (b2, _)]) rfl rfl ?_
    refine OpsW.det (det_move rfl) rfl ?_
    refine OpsW.det (det_extract rfl rfl) rfl ?_
    refine OpsW.det (det_extract rfl rfl) rfl ?_
    refine OpsW.det (det_extract rfl rfl) rfl ?_
    refine OpsW.det (det_extract rfl rfl) rfl ?_
    refine OpsW.det (det_assign rfl) rfl ?_
    refine OpsW.det (det_assign rfl) rfl ?_
    refine OpsW.det (det_assign rfl) rfl ?_
    refine OpsW.det (det_assign rfl) rfl ?_
    refine sNext ?_
    refine W.keep (F' := [(7, _), (6, _), (5, _), (4, _), (2, _)]) ⟨rfl, rfl, rfl, rfl, rfl, trivial⟩ ?_
    refine sSeq ?_
    refine sSeq ?_
    refine W.region ?_
    refine OpsW.det (det_move rfl) rfl ?_
    refine OpsW.det (Det.to (det_neq rfl rfl) (congrArg Value.bool (rfl))) rfl ?_
    refine OpsW.det (det_move rfl) rfl ?_
    refine OpsW.guard_yes rfl rfl ?_
    refine OpsW.det (det_move rfl) rfl ?_
    refine OpsW.det (det_pick rfl rfl) rfl ?_
    refine sNext ?_
    refine W.keep (F' := [(23, _), (7, _), (6, _), (4, _), (2, _)]) ⟨rfl, rfl, rfl, rfl, rfl, trivial⟩ ?_
    refine W.cond rfl (fun hc23 => ?_) (fun hc23 => ?_)
    · skip
      refine sSeq ?_
      refine W.region ?_
      refine OpsW.det (det_zero bz48) rfl ?_
      refine OpsW.det (det_move rfl) rfl ?_
      refine OpsW.storeW48 rfl rfl (Upd.there (Upd.here)) ?_
      refine OpsW.det (det_assign rfl) rfl ?_
      refine sNext ?_
      refine W.keep (F' := [(3, _), (2, _)]) ⟨rfl, rfl, trivial⟩ ?_
      refine sRet ?_
      exact done2 Tryd.results24 (rv_cellA ty48 rfl (List.Mem.tail _ (List.Mem.head _)) rfl) (rv_tmp rfl) (rd_post (rd1_far hE hc23))
    · skip
      have hlens := mark_lens hE
      have hpos : 0 < l.length := by omega
      have hcap := hp14.2
      have hcB := cl_Bs (sp := l) (b := p14.1) (cap := p14.2.1) (sps := p14.2.2) hB.small hpos hp14.2
      have hcl := cl_len hpos
      have hT1 := Bs_take1 (k := 96) hcB (by omega)
      rw [hcl] at hcB
      refine sSkip ?_
      refine sSeq ?_
      obtain ⟨X, hX⟩ : ∃ X, X = rx l := ⟨_, rfl⟩
      refine W.region ?_
      refine OpsW.det (det_move rfl) rfl ?_
      refine OpsW.det ((det_slice (lo := none) (hi := some (.const (.int .i64 96))) (l := 0) (h := 96) u22 sz5 rfl rfl ⟨_, rfl⟩ (by omega) (by omega) (by omega)).to (v := .slice (some ⟨p14.1, 0, none⟩) 96 p14.2.1) (by simp)) rfl ?_
      refine OpsW.det ((det_call en25 rfl (fun w hb ho => Read_ok (G' := [(p14.1, blk (bcells (cl l) ++ p14.2.2) 5)]) (l := (cl l).take 96) hT1 (blocks_cons (hb _ (by repeat (first | exact List.Mem.head _ | apply List.Mem.tail))) (fun p hp => ho.look (List.mem_append_right _ hp))))).to (v := .tuple #[encF X.1, .int .i64 X.2]) (read_to (hX.trans (rx_eq l)))) rfl ?_
      refine OpsW.det (det_move rfl) rfl ?_
      refine OpsW.det (det_extract rfl rfl) rfl ?_
      refine OpsW.det (det_extract rfl rfl) rfl ?_
      refine OpsW.fresh (fr_alloc z46r) rfl fun b8 => ?_
      refine OpsW.storeW46 rfl rfl (Upd.here) ?_
      refine OpsW.det (det_assign rfl) rfl ?_
      refine sNext ?_
      refine W.keep (F' := [(7, _), (8, _), (6, _), (4, _), (2, _)]) ⟨rfl, rfl, rfl, rfl, rfl, trivial⟩ ?_
      refine sSeq ?_
      refine sSeq ?_
      refine W.region ?_
      refine OpsW.det (det_move rfl) rfl ?_
      refine OpsW.det (det_neq rfl rfl) rfl ?_
      refine sNext ?_
      refine W.keep (F' := [(33, _), (7, _), (8, _), (6, _), (4, _), (2, _)]) ⟨rfl, rfl, rfl, rfl, rfl, rfl, trivial⟩ ?_
      refine W.cond rfl (fun hc33 => ?_) (fun hc33 => ?_)
      · skip
        refine sSeq ?_
        refine W.region ?_
        refine OpsW.det (det_zero bz48) rfl ?_
        refine OpsW.det (det_move rfl) rfl ?_
        refine OpsW.storeW48 rfl rfl (Upd.there (Upd.there (Upd.here))) ?_
        refine OpsW.det (det_assign rfl) rfl ?_
        refine sNext ?_
        refine W.keep (F' := [(3, _), (2, _)]) ⟨rfl, rfl, trivial⟩ ?_
        refine sRet ?_
        exact done2 Tryd.results24 (rv_cellA ty48 rfl (List.Mem.tail _ (List.Mem.tail _ (List.Mem.head _))) rfl) (rv_tmp rfl) (rd_post (rd1_x hX hE hc23 (ne_of_bne hc33)))
      · skip
        refine sSkip ?_
        refine sSeq ?_
        obtain ⟨sq, hsq⟩ : ∃ s, s = sqrt2 (X.1 * X.1 * X.1 + small 4 4) := ⟨_, rfl⟩
        refine W.draw mixed 11 [[], [0], [], [0, 1, 2], [0, 1, 2, 3], [0, 1, 2, 3, 4], [0, 1, 2, 3, 4, 5], [0, 1, 2, 3, 4, 5, 6], [0, 1, 2, 3, 4, 5, 6, 7], [0, 1, 2, 3, 4, 5, 6, 7], [], [0, 1, 2, 3, 4, 5, 6, 7, 8, 10], [0, 1, 2, 3, 4, 5, 6, 7, 8, 9, 10, 11]] (cl_lt (by decide)) ?_
        refine HeadR.start (cl_lt (by decide)) ?_
        refine HeadR.det rfl (fun β hβ => (det_loadW46 rfl (List.Mem.head _))) ?_
        refine HeadR.det rfl (fun β hβ => (det_call en26 rfl (fun w hb ho => Square_ok (fun p hp => ho.look (List.mem_append_right _ hp))))) ?_
        refine HeadR.det rfl (fun β hβ => (det_loadW46 rfl (List.Mem.head _))) ?_
        refine HeadR.det rfl (fun β hβ => (det_call en27 rfl (fun w hb ho => Mul_ok (fun p hp => ho.look (List.mem_append_right _ hp))))) ?_
        refine HeadR.det rfl (fun β hβ => (det_call en29 rfl (fun w hb ho => Small_ok (m := 4) (n := 4) (by decide) (by decide) (fun p hp => ho.look (List.mem_append_right _ hp))))) ?_
        refine HeadR.det rfl (fun β hβ => (det_call en28 rfl (fun w hb ho => Add_ok (fun p hp => ho.look (List.mem_append_right _ hp))))) ?_
        refine HeadR.det rfl (fun β hβ => ((det_call en31 rfl (fun w hb ho => Sqrt_ok (x := X.1 * X.1 * X.1 + small 4 4) (fun p hp => ho.look (List.mem_append_right _ hp)))).to (v := .tuple #[encF sq.1, .bool sq.2]) (sqrt_to hsq))) ?_
        refine HeadR.det rfl (fun β hβ => (det_move rfl)) ?_
        refine HeadR.det rfl (fun β hβ => (det_extract rfl rfl)) ?_
        refine HeadR.flt rfl (fun _ _ _ _ hs => flt_extract hs rfl rfl) ?_
        refine HeadR.fresh rfl (fun β hβ => (fr_alloc z46r).new) ?_
        refine HeadR.done ⟨by kernel_rfl, fun β hβ => ?_⟩
        refine OpsW.norm (F' := [(37, _), (38, _), (39, _), (40, _), (41, _), (42, _), (43, _), (36, _), (44, _), (45, _), (9, .pointer (some ⟨(β 9).1, 0, none⟩)), (33, _), (7, _), (8, _), (6, _), (4, _), (2, _)]) (H' := [(_, _), (_, _), (_, _), (_, _)]) rfl rfl ?_
        generalize (β 9).1 = b9
        refine OpsW.storeW46 rfl rfl (Upd.here) ?_
        refine OpsW.det (det_assign rfl) rfl ?_
        refine sNext ?_
        refine W.keep (F' := [(10, _), (9, _), (8, _), (6, _), (4, _), (2, _)]) ⟨rfl, rfl, rfl, rfl, rfl, rfl, trivial⟩ ?_
        refine sSeq ?_
        refine sSeq ?_
        refine sCut2 (σ := Fq2 × Bool) (fun s => [(10, .bool s.2), (9, .pointer (some ⟨b9, 0, none⟩)), (8, .pointer (some ⟨b8, 0, none⟩)), (2, .pointer (some ⟨b2, 0, none⟩))]) (fun s => [(b9, blk (cellsF s.1) 46), (b8, blk (cellsF X.1) 46), (b2, blk (cellsP (0, 0)) 48)]) (fun s => rd1 l = fin1 (X.1, s.1) s.2) ?_ ?_
        · skip
          refine W.region ?_
          refine OpsW.det (det_move rfl) rfl ?_
          refine OpsW.det (det_len u22 rfl) rfl ?_
          refine OpsW.det (det_gtr rfl rfl) rfl ?_
          refine sNext ?_
          refine W.keep (F' := [(48, _), (10, _), (9, _), (8, _), (6, _), (4, _), (2, _)]) ⟨rfl, rfl, rfl, rfl, rfl, rfl, rfl, trivial⟩ ?_
          refine W.cond rfl (fun hc48 => ?_) (fun hc48 => ?_)
          · skip
            have h48 : 96 < l.length := by have h := hc48; simp only [decide_eq_true_eq] at h; omega
            have hT2 := Bs_drop1 (k := 96) (show Bs [(p14.1, blk (bcells (cl l) ++ p14.2.2) 5)] (.slice (some ⟨p14.1, 0, none⟩) (cl l).length p14.2.1) (cl l) by rw [hcl]; exact hcB) (by omega)
            rw [hcl] at hT2
            refine sSeq ?_
            refine sSeq ?_
            obtain ⟨Y, hY⟩ : ∃ Y, Y = ry l := ⟨_, rfl⟩
            refine W.region ?_
            refine OpsW.det (det_move rfl) rfl ?_
            refine OpsW.det ((det_slice (lo := some (.const (.int .i64 96))) (hi := none) (l := 96) (h := l.length) u22 sz5 rfl ⟨_, rfl⟩ rfl (by omega) (by omega) (by omega)).to (v := .slice (some ⟨p14.1, 0 + 96, none⟩) (l.length - 96) (p14.2.1 - 96)) (by rw [if_neg (by omega), Nat.mul_one])) rfl ?_
            refine OpsW.det ((det_call en25 rfl (fun w hb ho => Read_ok (G' := [(p14.1, blk (bcells (cl l) ++ p14.2.2) 5)]) (l := (cl l).drop 96) hT2 (blocks_cons (hb _ (by repeat (first | exact List.Mem.head _ | apply List.Mem.tail))) (fun p hp => ho.look (List.mem_append_right _ hp))))).to (v := .tuple #[encF Y.1, .int .i64 Y.2]) (read_to (hY.trans (ry_eq l)))) rfl ?_
            refine OpsW.det (det_move rfl) rfl ?_
            refine OpsW.det (det_extract rfl rfl) rfl ?_
            refine OpsW.det (det_extract rfl rfl) rfl ?_
            refine OpsW.storeW46 rfl rfl (Upd.here) ?_
            refine OpsW.det (det_assign rfl) rfl ?_
            refine sNext ?_
            refine W.keep (F' := [(7, _), (9, _), (8, _), (2, _)]) ⟨rfl, rfl, rfl, rfl, trivial⟩ ?_
            refine sSeq ?_
            refine W.region ?_
            refine OpsW.det (det_move rfl) rfl ?_
            refine OpsW.det (det_neq rfl rfl) rfl ?_
            refine sNext ?_
            refine W.keep (F' := [(56, _), (7, _), (9, _), (8, _), (2, _)]) ⟨rfl, rfl, rfl, rfl, rfl, trivial⟩ ?_
            refine W.cond rfl (fun hc56 => ?_) (fun hc56 => ?_)
            · skip
              refine sSeq ?_
              refine W.region ?_
              refine OpsW.det (det_zero bz48) rfl ?_
              refine OpsW.det (det_move rfl) rfl ?_
              refine OpsW.storeW48 rfl rfl (Upd.there (Upd.there (Upd.there (Upd.here)))) ?_
              refine OpsW.det (det_assign rfl) rfl ?_
              refine sNext ?_
              refine W.keep (F' := [(3, _), (2, _)]) ⟨rfl, rfl, trivial⟩ ?_
              refine sRet ?_
              refine cutRet ?_
              exact done2 Tryd.results24 (rv_cellA ty48 rfl (List.Mem.tail _ (List.Mem.tail _ (List.Mem.tail _ (List.Mem.head _)))) rfl) (rv_tmp rfl) (rd_post (rd1_y hX hY hE hc23 (eq_of_bne hc33) h48 (ne_of_bne hc56)))
            · skip
              refine sSkip ?_
              refine W.region ?_
              refine OpsW.det (det_loadW46 rfl (List.Mem.tail _ (List.Mem.head _))) rfl ?_
              refine OpsW.det (det_loadW46 rfl (List.Mem.head _)) rfl ?_
              refine OpsW.det (det_build rfl bld48) rfl ?_
              refine OpsW.det (det_call en39 rfl (fun w hb ho => POn_ok (fun p hp => ho.look (List.mem_append_right _ hp)))) rfl ?_
              refine OpsW.det (det_assign rfl) rfl ?_
              refine sLast ?_
              refine cutOk (Y.1, onB (X.1, Y.1)) (rd1_long hX hY hE hc23 (eq_of_bne hc33) h48 (eq_of_bne hc56)) ⟨rfl, rfl, rfl, rfl, trivial⟩ ?_
              repeat (first | exact List.Sublist.refl _ | exact List.nil_sublist _ | refine List.Sublist.cons_cons _ ?_ | refine List.Sublist.cons _ ?_)
          · skip
            have h48 : ¬ 96 < l.length := by have h := hc48; simp only [decide_eq_false_iff_not] at h; omega
            refine sSeq ?_
            refine W.region ?_
            refine OpsW.det (det_loadW46 rfl (List.Mem.head _)) rfl ?_
            refine OpsW.det (det_call en32 rfl (fun w hb ho => Cw.Large2_ok (fun p hp => ho.look (List.mem_append_right _ hp)))) rfl ?_
            refine OpsW.det (det_move rfl) rfl ?_
            refine OpsW.det (det_neqb u4 rfl rfl) rfl ?_
            refine sNext ?_
            refine W.keep (F' := [(66, _), (10, _), (9, _), (8, _), (2, _)]) ⟨rfl, rfl, rfl, rfl, rfl, trivial⟩ ?_
            refine W.cond rfl (fun hc66 => ?_) (fun hc66 => ?_)
            · skip
              refine W.region ?_
              refine OpsW.det (det_loadW46 rfl (List.Mem.head _)) rfl ?_
              refine OpsW.det (det_call en33 rfl (fun w hb ho => Neg_ok (fun p hp => ho.look (List.mem_append_right _ hp)))) rfl ?_
              refine OpsW.storeW46 rfl rfl (Upd.here) ?_
              refine sLast ?_
              refine cutOk (0 - sq.1, sq.2) (rd1_neg hX hsq hE hc23 (eq_of_bne hc33) h48 (by have h := hc66; simpa using h)) ⟨rfl, rfl, rfl, rfl, trivial⟩ ?_
              repeat (first | exact List.Sublist.refl _ | exact List.nil_sublist _ | refine List.Sublist.cons_cons _ ?_ | refine List.Sublist.cons _ ?_)
            · skip
              refine sSkip0 ?_
              refine cutOk (sq.1, sq.2) (rd1_pos hX hsq hE hc23 (eq_of_bne hc33) h48 (by have h := hc66; simpa using h)) ⟨rfl, rfl, rfl, rfl, trivial⟩ ?_
              repeat (first | exact List.Sublist.refl _ | exact List.nil_sublist _ | refine List.Sublist.cons_cons _ ?_ | refine List.Sublist.cons _ ?_)
        · skip
          rintro ⟨y, okb⟩ hrd
          change rd1 l = fin1 (X.1, y) okb at hrd
          refine W.norm (F' := [(10, .bool okb), (9, .pointer (some ⟨b9, 0, none⟩)), (8, .pointer (some ⟨b8, 0, none⟩)), (2, .pointer (some ⟨b2, 0, none⟩))]) (H' := [(b9, blk (cellsF y) 46), (b8, blk (cellsF X.1) 46), (b2, blk (cellsP (0, 0)) 48)]) rfl rfl ?_
          refine sSeq ?_
          refine W.region ?_
          refine OpsW.det (det_loadW46 rfl (List.Mem.tail _ (List.Mem.head _))) rfl ?_
          refine OpsW.det (det_loadW46 rfl (List.Mem.head _)) rfl ?_
          refine OpsW.det (det_build rfl bld48) rfl ?_
          refine OpsW.fresh (fr_alloc z48r) rfl fun b11 => ?_
          refine OpsW.storeW48 rfl rfl (Upd.here) ?_
          refine sNext ?_
          refine W.keep (F' := [(11, _), (10, _), (2, _)]) ⟨rfl, rfl, rfl, trivial⟩ ?_
          refine sSeq ?_
          refine sBlock ?_
          refine sSeq ?_
          rcases okb with _ | _
          · skip
            refine W.region ?_
            refine OpsW.det (det_move rfl) rfl ?_
            refine OpsW.det (det_not rfl) rfl ?_
            refine OpsW.det (det_move rfl) rfl ?_
            refine OpsW.guard_no rfl rfl rfl ?_
            refine OpsW.guard_no rfl rfl rfl ?_
            refine OpsW.guard_no rfl rfl rfl ?_
            refine OpsW.det (det_pick rfl rfl) rfl ?_
            refine OpsW.det (det_assign rfl) rfl ?_
            refine sNext ?_
            refine W.keep (F' := [(72, _), (11, _), (2, _)]) ⟨rfl, rfl, rfl, trivial⟩ ?_
            refine W.cond_true rfl ?_
            refine sSeq ?_
            refine W.region ?_
            refine OpsW.det (det_zero bz48) rfl ?_
            refine OpsW.storeW48 rfl rfl (Upd.there (Upd.there (Upd.there (Upd.here)))) ?_
            refine OpsW.det (det_assign rfl) rfl ?_
            refine sNext ?_
            refine W.keep (F' := [(3, _), (2, _)]) ⟨rfl, rfl, trivial⟩ ?_
            refine sRet ?_
            refine retBlk ?_
            exact done2 Tryd.results24 (rv_cellA ty48 rfl (List.Mem.tail _ (List.Mem.tail _ (List.Mem.tail _ (List.Mem.head _)))) rfl) (rv_tmp rfl) (rd_post (hrd.trans fin_no))
          · skip
            refine W.region ?_
            refine OpsW.det (det_move rfl) rfl ?_
            refine OpsW.det (det_not rfl) rfl ?_
            refine OpsW.det (det_move rfl) rfl ?_
            refine OpsW.guard_yes rfl rfl ?_
            refine OpsW.det (det_loadW48 rfl (List.Mem.head _)) rfl ?_
            refine OpsW.guard_yes rfl rfl ?_
            refine OpsW.det (det_zero bz48) rfl ?_
            refine OpsW.guard_yes rfl rfl ?_
            refine OpsW.det (det_eql48 rfl rfl) rfl ?_
            refine OpsW.det (det_pick rfl rfl) rfl ?_
            refine OpsW.det (det_assign rfl) rfl ?_
            refine sNext ?_
            refine W.keep (F' := [(72, _), (11, _), (2, _)]) ⟨rfl, rfl, rfl, trivial⟩ ?_
            refine W.cond rfl (fun hc72 => ?_) (fun hc72 => ?_)
            · skip
              refine sSeq ?_
              refine W.region ?_
              refine OpsW.det (det_zero bz48) rfl ?_
              refine OpsW.storeW48 rfl rfl (Upd.there (Upd.there (Upd.there (Upd.here)))) ?_
              refine OpsW.det (det_assign rfl) rfl ?_
              refine sNext ?_
              refine W.keep (F' := [(3, _), (2, _)]) ⟨rfl, rfl, trivial⟩ ?_
              refine sRet ?_
              refine retBlk ?_
              exact done2 Tryd.results24 (rv_cellA ty48 rfl (List.Mem.tail _ (List.Mem.tail _ (List.Mem.tail _ (List.Mem.head _)))) rfl) (rv_tmp rfl) (rd_post (hrd.trans (fin_zero (of_decide_eq_true hc72))))
            · skip
              refine sSeq ?_
              refine W.region ?_
              refine OpsW.det (det_loadW48 rfl (List.Mem.head _)) rfl ?_
              refine OpsW.det (det_call en30 rfl (fun w hb ho => PIn_ok (fun p hp => ho.look (List.mem_append_right _ hp)))) rfl ?_
              refine OpsW.det (det_not rfl) rfl ?_
              refine OpsW.det (det_assign rfl) rfl ?_
              refine sNext ?_
              refine W.keep (F' := [(81, _), (11, _), (2, _)]) ⟨rfl, rfl, rfl, trivial⟩ ?_
              refine W.cond rfl (fun hc81 => ?_) (fun hc81 => ?_)
              · skip
                refine sSeq ?_
                refine W.region ?_
                refine OpsW.det (det_zero bz48) rfl ?_
                refine OpsW.storeW48 rfl rfl (Upd.there (Upd.there (Upd.there (Upd.here)))) ?_
                refine OpsW.det (det_assign rfl) rfl ?_
                refine sNext ?_
                refine W.keep (F' := [(3, _), (2, _)]) ⟨rfl, rfl, trivial⟩ ?_
                refine sRet ?_
                refine retBlk ?_
                exact done2 Tryd.results24 (rv_cellA ty48 rfl (List.Mem.tail _ (List.Mem.tail _ (List.Mem.tail _ (List.Mem.head _)))) rfl) (rv_tmp rfl) (rd_post (hrd.trans (fin_grp (of_decide_eq_false hc72) (by simpa using hc81))))
              · skip
                refine sSkip0 ?_
                refine bNext ?_
                refine W.keep (F' := [(11, _), (2, _)]) ⟨rfl, rfl, trivial⟩ ?_
                refine sSeq ?_
                refine W.region ?_
                refine OpsW.det (det_loadW48 rfl (List.Mem.head _)) rfl ?_
                refine OpsW.storeW48 rfl rfl (Upd.there (Upd.there (Upd.there (Upd.here)))) ?_
                refine OpsW.det (det_assign rfl) rfl ?_
                refine sNext ?_
                refine W.keep (F' := [(3, _), (2, _)]) ⟨rfl, rfl, trivial⟩ ?_
                refine sRet ?_
                exact done2 Tryd.results24 (rv_cellA ty48 rfl (List.Mem.tail _ (List.Mem.tail _ (List.Mem.tail _ (List.Mem.head _)))) rfl) (rv_tmp rfl) (rd_post (hrd.trans (fin_ok (of_decide_eq_false hc72) (by simpa using hc81))))
  · skip
    refine W.region ?_
    refine OpsW.det (det_move rfl) rfl ?_
    refine OpsW.det (det_call en53 rfl (fun w hb ho => chead_no_ok (G' := G') (n := 96) hB (by decide) (by decide) hlen0 hE ho.blocks)) rfl ?_
    refine OpsW.det (det_move rfl) rfl ?_
    refine OpsW.det (det_extract rfl rfl) rfl ?_
    refine OpsW.det (det_extract rfl rfl) rfl ?_
    refine OpsW.det (det_extract rfl rfl) rfl ?_
    refine OpsW.det (det_extract rfl rfl) rfl ?_
    refine OpsW.det (det_assign rfl) rfl ?_
    refine OpsW.det (det_assign rfl) rfl ?_
    refine OpsW.det (det_assign rfl) rfl ?_
    refine OpsW.det (det_assign rfl) rfl ?_
    refine sNext ?_
    refine W.keep (F' := [(7, _), (6, _), (5, _), (4, _), (2, _)]) ⟨rfl, rfl, rfl, rfl, rfl, trivial⟩ ?_
    refine sSeq ?_
    refine sSeq ?_
    refine W.region ?_
    refine OpsW.det (det_move rfl) rfl ?_
    refine OpsW.det (Det.to (det_neq rfl rfl) (congrArg Value.bool ((bne_iff_ne.2 hE)))) rfl ?_
    refine OpsW.det (det_move rfl) rfl ?_
    refine OpsW.guard_no rfl rfl rfl ?_
    refine OpsW.det (det_pick rfl rfl) rfl ?_
    refine sNext ?_
    refine W.keep (F' := [(23, _), (7, _), (6, _), (4, _), (2, _)]) ⟨rfl, rfl, rfl, rfl, rfl, trivial⟩ ?_
    refine W.cond_true rfl ?_
    refine sSeq ?_
    refine W.region ?_
    refine OpsW.det (det_zero bz48) rfl ?_
    refine OpsW.det (det_move rfl) rfl ?_
    refine OpsW.storeW48 rfl rfl (Upd.here) ?_
    refine OpsW.det (det_assign rfl) rfl ?_
    refine sNext ?_
    refine W.keep (F' := [(3, _), (2, _)]) ⟨rfl, rfl, trivial⟩ ?_
    refine sRet ?_
    exact done2 Tryd.results24 (rv_cellA ty48 rfl (List.Mem.head _) rfl) (rv_tmp rfl) (rd_post (rd1_mark hE))

end Go.Cw

/- What the reading of a point of the second group comes to: the errors, the roots. -/
namespace Go.Cw
open Go.Cu Go Go.Vm
set_option linter.unusedVariables false
set_option linter.unusedSimpArgs false
set_option linter.unusedSectionVars false
open CR
theorem four_eq : four = small 4 4 := rfl
theorem four_ne : (0 : Fq2) * 0 ≠ 0 * 0 * 0 + small 4 4 := by decide +kernel
theorem fin_of {q : Pt} (h : q.2 * q.2 = q.1 * q.1 * q.1 + small 4 4) : onB q = true ∧ q ≠ (0, 0) := by
  refine ⟨?_, fun e => ?_⟩
  · unfold onB
    rw [Bool.or_eq_true]; right
    exact decide_eq_true h
  · rw [e] at h
    exact four_ne h
theorem fin_curve {q : Pt} (h : ¬ q.2 * q.2 = q.1 * q.1 * q.1 + small 4 4) : fin1 q (onB q) = ((0, 0), 13) := by
  by_cases hz : q = (0, 0)
  · exact fin_zero hz
  · have : onB q = false := by
      unfold onB
      rw [decide_eq_false hz, Bool.false_or]
      exact decide_eq_false h
    rw [this]; exact fin_no
theorem sqrt2_sq {x : Fq2} {s : Fq2 × Bool} (hs : s = sqrt2 x) (h : s.2 = true) : s.1 * s.1 = x := by
  subst hs
  exact sqrt2_ok h
theorem neg_sq {y c : Fq2} (h : y * y = c) : (0 - y) * (0 - y) = c := by
  rw [← h]
  exact (show ((0 - y) * (0 - y)) = (y * y) from ring_id (fun vi_ => vget vi_ [y]) (.mul (.sub .zero (.var 0)) (.sub .zero (.var 0))) (.mul (.var 0) (.var 0)) (by kernel_rfl))
theorem fin_err {p : Pt} {ok : Bool} (h : (fin1 p ok).2 ≠ 0) : (fin1 p ok).1 = (0, 0) := by
  unfold fin1 at h ⊢
  split
  · rfl
  · rename_i h1
    rw [if_neg h1] at h
    split
    · rfl
    · rename_i h2
      rw [if_neg h2] at h
      exact absurd rfl h
theorem rd1_err {l : List Nat} {R : Pt × Int} (hR : R = rd1 l) (h : R.2 ≠ 0) : R.1 = (0, 0) := by
  by_cases h1 : (markE l 96).1 = 0
  · rcases h2 : fB (b0 l) with _ | _
    · obtain ⟨X, hX⟩ : ∃ X, X = rx l := ⟨_, rfl⟩
      by_cases h3 : X.2 = 0
      · by_cases h4 : 96 < l.length
        · obtain ⟨Y, hY⟩ : ∃ Y, Y = ry l := ⟨_, rfl⟩
          by_cases h5 : Y.2 = 0
          · rw [rd1_long hX hY h1 h2 h3 h4 h5] at hR; subst hR; exact fin_err h
          · rw [rd1_y hX hY h1 h2 h3 h4 h5] at hR; rw [hR]
        · obtain ⟨sq, hs⟩ : ∃ s, s = sqrt2 (X.1 * X.1 * X.1 + small 4 4) := ⟨_, rfl⟩
          by_cases h5 : large2 sq.1 = lB (b0 l)
          · rw [rd1_pos hX hs h1 h2 h3 h4 h5] at hR; subst hR; exact fin_err h
          · rw [rd1_neg hX hs h1 h2 h3 h4 h5] at hR; subst hR; exact fin_err h
      · rw [rd1_x hX h1 h2 h3] at hR; rw [hR]
    · rw [rd1_far h1 h2] at hR; rw [hR]
  · rw [rd1_mark h1] at hR; rw [hR]
theorem read2_err {l : List Nat} {X : Fq2 × Int} (hX : X = read2 l) (h : l.length = 96) (h2 : X.2 ≠ 0) : X.2 = 12 := by
  subst hX
  by_cases h1 : (readF (l.take 48)).2 = 0
  · by_cases h3 : (readF (l.drop 48)).2 = 0
    · rw [read2_yes h h1 h3] at h2; exact absurd rfl h2
    · rw [read2_no h (.inr h3)]
  · rw [read2_no h (.inl h1)]
theorem rx_len {l : List Nat} (h : 96 ≤ l.length) : ((cl l).take 96).length = 96 := by rw [List.length_take, cl_len (by omega)]; omega
theorem ry_len {l : List Nat} (h : l.length = 192) : ((cl l).drop 96).length = 96 := by rw [List.length_drop, cl_len (by omega)]; omega
end Go.Cw

/- CodecReads2: the walk. Conditions: what the document fixes of forms. -/
namespace Go.Cw
open Go Go.Vm Go.RowKit Go.Proofs Go.Cu
attribute [local irreducible] W OpsW Det Fresh New Writes Vm.Pure Makes Changes ExternTo BuildTo ZeroTo FieldTo IndexTo BinTo SliceTo Vm.Enters
set_option linter.unusedVariables false
set_option linter.unusedSimpArgs false
variable {T : Nat → TypeId × Nat × Nat}

theorem rd_name {l : List Nat} {R : Pt × Int} (h : R = rd1 l) : Value.tuple #[encP (rd1 l).1, .int .i64 (rd1 l).2] = .tuple #[encP R.1, .int .i64 R.2] := by rw [h]
theorem mk_name {l : List Nat} {M : Int × Bool} (h : M = markE l 96) : Value.tuple #[.int .i64 (markE l 96).1, .bool (markE l 96).2] = .tuple #[.int .i64 M.1, .bool M.2] := by rw [h]
theorem nz_p {p : Pt} (h : p = (0, 0)) : (!decide (p = (0, 0))) = false := by rw [decide_eq_true h]; rfl
attribute [local irreducible] sqrt2 read2 inB rd1 markE

theorem en24 : Vm.Enters Tryd.prog 24 := Vm.Enters.of fun _ _ => by kernel_rfl
set_option maxHeartbeats 8000000 in
set_option maxRecDepth 100000 in
theorem CodecReads2_ok {G' : Hp} {v : Value} {l : List Nat} (hB : Bs G' v l) (h09 : ∀ {w : World}, Blocks (GH T) w → Vm.Pure Tryd.prog 9 #[] w (.bool true)) {w : World} (hG : Blocks (G' ++ GH T) w)  : Vm.Pure Tryd.prog 4 #[v] w (.bool true) := by
  obtain ⟨ad, cap, hvv⟩ := hB.shape
  refine pure_of_W (n := 167) (args := [v]) Tryd.func4 rfl Tryd.ntmps4 (Nat.le_of_ble_eq_true rfl) hG ?_
  refine sStart ?_
  refine sSeq ?_
  subst hvv
  refine W.region ?_
  refine OpsW.det (det_assign rfl) rfl ?_
  refine sNext ?_
  refine W.keep (F' := [(0, _)]) ⟨rfl, trivial⟩ ?_
  refine sSeq ?_
  refine sSeq ?_
  refine W.region ?_
  refine OpsW.det (det_call en9 rfl (fun w hb ho => h09 (fun p hp => ho.look (List.mem_append_right _ hp)))) rfl ?_
  refine OpsW.det (det_not rfl) rfl ?_
  refine sNext ?_
  refine W.keep (F' := [(19, _), (0, _)]) ⟨rfl, rfl, trivial⟩ ?_
  refine W.cond_false rfl ?_
  refine sSkip ?_
  refine sSeq ?_
  refine sSeq ?_
  refine W.region ?_
  refine OpsW.det (det_move rfl) rfl ?_
  refine OpsW.det (det_call en10 rfl (fun w hb ho => long09_ok (fun p hp => ho.look (List.mem_append_right _ hp)))) rfl ?_
  refine sNext ?_
  refine W.keep (F' := [(21, _), (0, _)]) ⟨rfl, rfl, trivial⟩ ?_
  refine W.cond rfl (fun hc21 => ?_) (fun hc21 => ?_)
  · skip
    refine sSeq ?_
    refine W.region ?_
    refine OpsW.det (det_assign rfl) rfl ?_
    refine sNext ?_
    refine W.keep (F' := [(2, _)]) ⟨rfl, trivial⟩ ?_
    refine sRet ?_
    exact done1 Tryd.results4 (rv_tmp rfl) rfl
  · skip
    have hl : l.length ≤ 400 := by have h := hc21; simp only [decide_eq_false_iff_not] at h; omega
    refine sSkip ?_
    refine sSeq ?_
    refine W.region ?_
    refine OpsW.det (det_move rfl) rfl ?_
    refine OpsW.new (new_call en11 rfl (fun w hb ho => Copy_ok (G' := G') (l := l) hB (by omega) ho.blocks)) rfl fun p23 hp23 => ?_
    refine OpsW.norm (F' := [(23, .slice (some ⟨p23.1, 0, none⟩) l.length l.length), (22, _), (21, _), (0, _)]) (H' := [(p23.1, blk (bcells l ++ []) 5), ]) rfl rfl ?_
    refine OpsW.det (det_assign rfl) rfl ?_
    refine sNext ?_
    refine W.keep (F' := [(3, _), (0, _)]) ⟨rfl, rfl, trivial⟩ ?_
    refine sSeq ?_
    obtain ⟨R, hR⟩ : ∃ R, R = rd1 l := ⟨_, rfl⟩
    refine W.region ?_
    refine OpsW.det (det_move rfl) rfl ?_
    refine OpsW.det ((det_call en24 rfl (fun w hb ho => ReadG2_ok (G' := [(p23.1, blk (bcells l ++ []) 5)]) (l := l) (Bs.of hB.small (Nat.le_refl _)) (by omega) (blocks_cons (hb _ (by repeat (first | exact List.Mem.head _ | apply List.Mem.tail))) (fun p hp => ho.look (List.mem_append_right _ hp))))).to (v := .tuple #[encP R.1, .int .i64 R.2]) (rd_name hR)) rfl ?_
    refine OpsW.det (det_move rfl) rfl ?_
    refine OpsW.det (det_extract rfl rfl) rfl ?_
    refine OpsW.det (det_extract rfl rfl) rfl ?_
    refine OpsW.fresh (fr_alloc z48r) rfl fun b4 => ?_
    refine OpsW.storeW48 rfl rfl (Upd.here) ?_
    refine OpsW.det (det_assign rfl) rfl ?_
    refine sNext ?_
    refine W.keep (F' := [(5, _), (4, _), (3, _), (0, _)]) ⟨rfl, rfl, rfl, rfl, trivial⟩ ?_
    refine sSeq ?_
    refine sSeq ?_
    refine sCut2 (σ := Unit) (fun _s => [(5, .int .i64 R.2), (4, .pointer (some ⟨b4, 0, none⟩)), (0, .slice ad l.length cap)]) (fun _s => [(b4, blk (cellsP R.1) 48)]) (fun _s => True) ?_ ?_
    · skip
      refine W.region ?_
      refine OpsW.det (det_move rfl) rfl ?_
      refine OpsW.det (det_move rfl) rfl ?_
      refine OpsW.det (Det.to (det_call en13 rfl (fun w hb ho => same_ok (G' := (p23.1, blk (bcells l ++ []) 5) :: G') (l := l) (l2 := l) ((Bs.of hB.small (Nat.le_refl _)).mono fun p hp => by rw [List.mem_singleton.1 hp]; exact List.Mem.head _) (hB.mono fun p hp => List.mem_cons_of_mem _ hp) (by omega) (blocks_cons (hb _ (by repeat (first | exact List.Mem.head _ | apply List.Mem.tail))) ho.blocks))) (congrArg Value.bool (decide_eq_true rfl))) rfl ?_
      refine OpsW.det (det_not rfl) rfl ?_
      refine OpsW.det (det_move rfl) rfl ?_
      refine OpsW.guard_yes rfl rfl ?_
      refine OpsW.det (det_move rfl) rfl ?_
      refine OpsW.guard_yes rfl rfl ?_
      refine OpsW.test (det_neq rfl rfl) rfl (fun hc35 => ?_) (fun hc35 => ?_)
      · skip
        refine OpsW.guard_yes rfl rfl ?_
        refine OpsW.det (det_move rfl) rfl ?_
        refine OpsW.guard_yes rfl rfl ?_
        refine OpsW.det (det_loadW48 rfl (List.Mem.head _)) rfl ?_
        refine OpsW.guard_yes rfl rfl ?_
        refine OpsW.det (det_zero bz48) rfl ?_
        refine OpsW.guard_yes rfl rfl ?_
        refine OpsW.det (Det.to (det_neq48 rfl rfl) (congrArg Value.bool (nz_p (rd1_err hR (ne_of_bne hc35))))) rfl ?_
        refine OpsW.guard_yes rfl rfl ?_
        refine OpsW.det (det_pick rfl rfl) rfl ?_
        refine OpsW.det (det_pick rfl rfl) rfl ?_
        refine sNext ?_
        refine W.keep (F' := [(41, _), (5, _), (4, _), (0, _)]) ⟨rfl, rfl, rfl, rfl, trivial⟩ ?_
        refine W.cond_false rfl ?_
        refine sSkip0 ?_
        refine cutOk () trivial ⟨rfl, rfl, rfl, trivial⟩ ?_
        repeat (first | exact List.Sublist.refl _ | exact List.nil_sublist _ | refine List.Sublist.cons_cons _ ?_ | refine List.Sublist.cons _ ?_)
      · skip
        refine OpsW.guard_yes rfl rfl ?_
        refine OpsW.det (det_move rfl) rfl ?_
        refine OpsW.guard_no rfl rfl rfl ?_
        refine OpsW.guard_no rfl rfl rfl ?_
        refine OpsW.guard_no rfl rfl rfl ?_
        refine OpsW.guard_yes rfl rfl ?_
        refine OpsW.det (det_pick rfl rfl) rfl ?_
        refine OpsW.det (det_pick rfl rfl) rfl ?_
        refine sNext ?_
        refine W.keep (F' := [(41, _), (5, _), (4, _), (0, _)]) ⟨rfl, rfl, rfl, rfl, trivial⟩ ?_
        refine W.cond_false rfl ?_
        refine sSkip0 ?_
        refine cutOk () trivial ⟨rfl, rfl, rfl, trivial⟩ ?_
        repeat (first | exact List.Sublist.refl _ | exact List.nil_sublist _ | refine List.Sublist.cons_cons _ ?_ | refine List.Sublist.cons _ ?_)
    · skip
      rintro - -
      refine sSeq ?_
      obtain ⟨M, hM⟩ : ∃ M, M = markE l 96 := ⟨_, rfl⟩
      refine W.region ?_
      refine OpsW.det (det_move rfl) rfl ?_
      refine OpsW.det ((det_call en14 rfl (fun w hb ho => marks_ok (G' := G') (l := l) (n := 96) hB (by decide) (by decide) (by omega) ho.blocks)).to (v := .tuple #[.int .i64 M.1, .bool M.2]) (mk_name hM)) rfl ?_
      refine OpsW.det (det_move rfl) rfl ?_
      refine OpsW.det (det_extract rfl rfl) rfl ?_
      refine OpsW.det (det_extract rfl rfl) rfl ?_
      refine OpsW.det (det_assign rfl) rfl ?_
      refine OpsW.det (det_assign rfl) rfl ?_
      refine sNext ?_
      refine W.keep (F' := [(7, _), (6, _), (5, _), (4, _), (0, _)]) ⟨rfl, rfl, rfl, rfl, rfl, trivial⟩ ?_
      refine sSeq ?_
      refine sSeq ?_
      rcases Decidable.em (M.1 = 0) with hM0 | hM0
      · skip
        refine W.region ?_
        refine OpsW.det (det_move rfl) rfl ?_
        refine OpsW.det (Det.to (det_neq rfl rfl) (congrArg Value.bool ((by rw [hM0])))) rfl ?_
        refine OpsW.det (det_move rfl) rfl ?_
        refine OpsW.guard_yes rfl rfl ?_
        refine OpsW.det (det_move rfl) rfl ?_
        refine OpsW.det (det_pick rfl rfl) rfl ?_
        refine sNext ?_
        refine W.keep (F' := [(51, _), (6, _), (5, _), (4, _), (0, _)]) ⟨rfl, rfl, rfl, rfl, rfl, trivial⟩ ?_
        refine W.cond rfl (fun hc51 => ?_) (fun hc51 => ?_)
        · skip
          have hRM : R = ((0, 0), M.1) := by rw [hR, hM0, rd1_far (hM ▸ hM0) ((mark_far (hM ▸ hM0)).symm.trans (hM ▸ hc51))]
          refine sSeq ?_
          refine W.region ?_
          refine OpsW.det (det_move rfl) rfl ?_
          refine OpsW.det (det_move rfl) rfl ?_
          refine OpsW.det (Det.to (det_eql rfl rfl) (congrArg Value.bool (beq_i (by rw [hRM])))) rfl ?_
          refine OpsW.det (det_move rfl) rfl ?_
          refine OpsW.guard_yes rfl rfl ?_
          refine OpsW.det (det_loadW48 rfl (List.Mem.head _)) rfl ?_
          refine OpsW.guard_yes rfl rfl ?_
          refine OpsW.det (det_zero bz48) rfl ?_
          refine OpsW.guard_yes rfl rfl ?_
          refine OpsW.det (Det.to (det_eql48 rfl rfl) (congrArg Value.bool (decide_eq_true (by rw [hRM])))) rfl ?_
          refine OpsW.det (det_pick rfl rfl) rfl ?_
          refine OpsW.det (det_assign rfl) rfl ?_
          refine sNext ?_
          refine W.keep (F' := [(2, _)]) ⟨rfl, trivial⟩ ?_
          refine sRet ?_
          exact done1 Tryd.results4 (rv_tmp rfl) rfl
        · skip
          have hE : (markE l 96).1 = 0 := hM ▸ hM0
          have hfb : fB (b0 l) = false := (mark_far hE).symm.trans (hM ▸ hc51)
          have hlens := mark_lens hE
          have hpos : 0 < l.length := by omega
          obtain ⟨bk0, o0, cap0, cs0, e0, fr0, hv0, hm0, hcell0⟩ := hB.at_ 0 hpos
          simp only [Value.slice.injEq] at hv0
          obtain ⟨rfl, _, rfl⟩ := hv0
          refine sSkip ?_
          refine sSeq ?_
          refine W.region ?_
          refine OpsW.det (det_move rfl) rfl ?_
          refine OpsW.new (new_call en11 rfl (fun w hb ho => Copy_ok (G' := G') (l := l) hB (by omega) ho.blocks)) rfl fun p61 hp61 => ?_
          refine OpsW.norm (F' := [(61, .slice (some ⟨p61.1, 0, none⟩) l.length l.length), (60, _), (51, _), (6, _), (5, _), (4, _), (0, _)]) (H' := [(p61.1, blk (bcells l ++ []) 5), (_, _)]) rfl rfl ?_
          refine OpsW.det (det_assign rfl) rfl ?_
          refine sNext ?_
          refine W.keep (F' := [(8, _), (5, _), (4, _), (0, _)]) ⟨rfl, rfl, rfl, rfl, trivial⟩ ?_
          refine sSeq ?_
          refine W.region ?_
          refine OpsW.det (det_move rfl) rfl ?_
          refine OpsW.det (det_indexAddr_sl u22 sz5 rfl rfl ⟨by decide, by omega⟩) rfl ?_
          refine OpsW.det (det_loadC ty5 rfl (List.Mem.head _) (bc_at0 hpos)) rfl ?_
          refine OpsW.det ((det_and (b := 31) rfl rfl).to (v := .int .u8 ((b0 l % 32 : Nat) : Int)) (congrArg (Value.int .u8) (and31_at (b0_lt hB.small hpos)))) rfl ?_
          refine OpsW.det (det_indexAddr_sl u22 sz5 rfl rfl ⟨by decide, by omega⟩) rfl ?_
          refine OpsW.store sz5 rfl rfl rfl rfl rfl (Upd.here) (cl_put hpos) ?_
          have hcB := cl_Bs (sp := l) (b := p61.1) (cap := l.length) (sps := []) hB.small hpos (Nat.le_refl _)
          have hcl := cl_len hpos
          have hT1 := Bs_take1 (k := 96) hcB (by rw [hcl]; omega)
          refine sNext ?_
          refine W.keep (F' := [(8, _), (5, _), (4, _), (0, _)]) ⟨rfl, rfl, rfl, rfl, trivial⟩ ?_
          refine sSeq ?_
          obtain ⟨X, hX⟩ : ∃ X, X = rx l := ⟨_, rfl⟩
          refine W.region ?_
          refine OpsW.det (det_move rfl) rfl ?_
          refine OpsW.det ((det_slice (lo := none) (hi := some (.const (.int .i64 96))) (l := 0) (h := 96) u22 sz5 rfl rfl ⟨_, rfl⟩ (by omega) (by omega) (by omega)).to (v := .slice (some ⟨p61.1, 0, none⟩) 96 l.length) (by simp)) rfl ?_
          refine OpsW.det ((det_call en25 rfl (fun w hb ho => Read_ok (G' := [(p61.1, blk (bcells (cl l) ++ []) 5)]) (l := (cl l).take 96) hT1 (blocks_cons (hb _ (by repeat (first | exact List.Mem.head _ | apply List.Mem.tail))) (fun p hp => ho.look (List.mem_append_right _ hp))))).to (v := .tuple #[encF X.1, .int .i64 X.2]) (read_to (hX.trans (rx_eq l)))) rfl ?_
          refine OpsW.det (det_move rfl) rfl ?_
          refine OpsW.det (det_extract rfl rfl) rfl ?_
          refine OpsW.det (det_extract rfl rfl) rfl ?_
          refine OpsW.fresh (fr_alloc z46r) rfl fun b9 => ?_
          refine OpsW.storeW46 rfl rfl (Upd.here) ?_
          refine OpsW.det (det_assign rfl) rfl ?_
          refine sNext ?_
          refine W.keep (F' := [(10, _), (9, _), (8, _), (5, _), (4, _), (0, _)]) ⟨rfl, rfl, rfl, rfl, rfl, rfl, trivial⟩ ?_
          refine sSeq ?_
          refine sSeq ?_
          refine W.region ?_
          refine OpsW.det (det_move rfl) rfl ?_
          refine OpsW.det (det_neq rfl rfl) rfl ?_
          refine sNext ?_
          refine W.keep (F' := [(74, _), (9, _), (8, _), (5, _), (4, _), (0, _)]) ⟨rfl, rfl, rfl, rfl, rfl, rfl, trivial⟩ ?_
          refine W.cond rfl (fun hc74 => ?_) (fun hc74 => ?_)
          · skip
            have hR2 : R = ((0, 0), X.2) := by rw [hR, rd1_x hX hE hfb (ne_of_bne hc74)]
            refine sSeq ?_
            refine W.region ?_
            refine OpsW.det (det_move rfl) rfl ?_
            refine OpsW.det (Det.to (det_eql rfl rfl) (congrArg Value.bool (beq_i (by rw [hR2]; exact read2_err (hX.trans (rx_eq l)) (rx_len (by omega)) (ne_of_bne hc74))))) rfl ?_
            refine OpsW.det (det_assign rfl) rfl ?_
            refine sNext ?_
            refine W.keep (F' := [(2, _)]) ⟨rfl, trivial⟩ ?_
            refine sRet ?_
            exact done1 Tryd.results4 (rv_tmp rfl) rfl
          · skip
            have hX0 := eq_of_bne hc74
            refine sSkip ?_
            refine sSeq ?_
            refine W.draw mixed 7 [[], [0], [], [0, 1, 2], [0, 1, 2, 3], [0, 1, 2, 3, 4], [], [0, 1, 2, 3, 4, 5, 6]] (cl_lt (by decide)) ?_
            refine HeadR.start (cl_lt (by decide)) ?_
            refine HeadR.det rfl (fun β hβ => (det_loadW46 rfl (List.Mem.head _))) ?_
            refine HeadR.det rfl (fun β hβ => (det_call en26 rfl (fun w hb ho => Square_ok (fun p hp => ho.look (List.mem_append_right _ hp))))) ?_
            refine HeadR.det rfl (fun β hβ => (det_loadW46 rfl (List.Mem.head _))) ?_
            refine HeadR.det rfl (fun β hβ => (det_call en27 rfl (fun w hb ho => Mul_ok (fun p hp => ho.look (List.mem_append_right _ hp))))) ?_
            refine HeadR.det rfl (fun β hβ => (det_call en29 rfl (fun w hb ho => Small_ok (m := 4) (n := 4) (by decide) (by decide) (fun p hp => ho.look (List.mem_append_right _ hp))))) ?_
            refine HeadR.det rfl (fun β hβ => (det_call en28 rfl (fun w hb ho => Add_ok (fun p hp => ho.look (List.mem_append_right _ hp))))) ?_
            refine HeadR.fresh rfl (fun β hβ => (fr_alloc z46r).new) ?_
            refine HeadR.done ⟨by kernel_rfl, fun β hβ => ?_⟩
            refine OpsW.norm (F' := [(77, _), (78, _), (79, _), (80, _), (81, _), (82, _), (11, .pointer (some ⟨(β 11).1, 0, none⟩)), (74, _), (9, _), (8, _), (5, _), (4, _), (0, _)]) (H' := [(_, _), (_, _), (_, _), (_, _)]) rfl rfl ?_
            generalize (β 11).1 = b11
            refine OpsW.storeW46 rfl rfl (Upd.here) ?_
            refine sNext ?_
            refine W.keep (F' := [(11, _), (9, _), (8, _), (5, _), (4, _), (0, _)]) ⟨rfl, rfl, rfl, rfl, rfl, rfl, trivial⟩ ?_
            refine sSeq ?_
            refine sSeq ?_
            refine W.region ?_
            refine OpsW.det (det_move rfl) rfl ?_
            refine OpsW.det (det_len u22 rfl) rfl ?_
            refine OpsW.det (det_eql rfl rfl) rfl ?_
            refine sNext ?_
            refine W.keep (F' := [(85, _), (11, _), (9, _), (8, _), (5, _), (4, _), (0, _)]) ⟨rfl, rfl, rfl, rfl, rfl, rfl, rfl, trivial⟩ ?_
            refine W.cond rfl (fun hc85 => ?_) (fun hc85 => ?_)
            · skip
              have h96 : l.length = 192 := by have h := hc85; simp at h; omega
              have hT2 := Bs_drop1 (k := 96) hcB (by rw [hcl]; omega)
              rw [hcl] at hT2
              refine sSeq ?_
              obtain ⟨Y, hY⟩ : ∃ Y, Y = ry l := ⟨_, rfl⟩
              refine W.region ?_
              refine OpsW.det (det_move rfl) rfl ?_
              refine OpsW.det ((det_slice (lo := some (.const (.int .i64 96))) (hi := none) (l := 96) (h := l.length) u22 sz5 rfl ⟨_, rfl⟩ rfl (by omega) (by omega) (by omega)).to (v := .slice (some ⟨p61.1, 0 + 96, none⟩) (l.length - 96) (l.length - 96)) (by rw [if_neg (by omega), Nat.mul_one])) rfl ?_
              refine OpsW.det ((det_call en25 rfl (fun w hb ho => Read_ok (G' := [(p61.1, blk (bcells (cl l) ++ []) 5)]) (l := (cl l).drop 96) hT2 (blocks_cons (hb _ (by repeat (first | exact List.Mem.head _ | apply List.Mem.tail))) (fun p hp => ho.look (List.mem_append_right _ hp))))).to (v := .tuple #[encF Y.1, .int .i64 Y.2]) (read_to (hY.trans (ry_eq l)))) rfl ?_
              refine OpsW.det (det_move rfl) rfl ?_
              refine OpsW.det (det_extract rfl rfl) rfl ?_
              refine OpsW.det (det_extract rfl rfl) rfl ?_
              refine OpsW.fresh (fr_alloc z46r) rfl fun b12 => ?_
              refine OpsW.storeW46 rfl rfl (Upd.here) ?_
              refine OpsW.det (det_assign rfl) rfl ?_
              refine sNext ?_
              refine W.keep (F' := [(13, _), (12, _), (11, _), (9, _), (5, _), (4, _)]) ⟨rfl, rfl, rfl, rfl, rfl, rfl, trivial⟩ ?_
              refine sSeq ?_
              refine sSeq ?_
              refine W.region ?_
              refine OpsW.det (det_move rfl) rfl ?_
              refine OpsW.det (det_neq rfl rfl) rfl ?_
              refine sNext ?_
              refine W.keep (F' := [(93, _), (12, _), (11, _), (9, _), (5, _), (4, _)]) ⟨rfl, rfl, rfl, rfl, rfl, rfl, trivial⟩ ?_
              refine W.cond rfl (fun hc93 => ?_) (fun hc93 => ?_)
              · skip
                have hR2 : R = ((0, 0), Y.2) := by rw [hR, rd1_y hX hY hE hfb hX0 (by omega) (ne_of_bne hc93)]
                refine sSeq ?_
                refine W.region ?_
                refine OpsW.det (det_move rfl) rfl ?_
                refine OpsW.det (Det.to (det_eql rfl rfl) (congrArg Value.bool (beq_i (by rw [hR2]; exact read2_err (hY.trans (ry_eq l)) (ry_len h96) (ne_of_bne hc93))))) rfl ?_
                refine OpsW.det (det_assign rfl) rfl ?_
                refine sNext ?_
                refine W.keep (F' := [(2, _)]) ⟨rfl, trivial⟩ ?_
                refine sRet ?_
                exact done1 Tryd.results4 (rv_tmp rfl) rfl
              · skip
                have hY0 := eq_of_bne hc93
                have hlong := rd1_long hX hY hE hfb hX0 (by omega) hY0
                refine sSkip ?_
                refine sSeq ?_
                refine sSeq ?_
                refine W.draw mixed 4 [[], [0], [], [0, 1, 2]] (cl_lt (by decide)) ?_
                refine HeadR.start (cl_lt (by decide)) ?_
                refine HeadR.det rfl (fun β hβ => (det_loadW46 rfl (List.Mem.head _))) ?_
                refine HeadR.det rfl (fun β hβ => (det_call en26 rfl (fun w hb ho => Square_ok (fun p hp => ho.look (List.mem_append_right _ hp))))) ?_
                refine HeadR.det rfl (fun β hβ => (det_loadW46 rfl (List.Mem.tail _ (List.Mem.head _)))) ?_
                refine HeadR.det rfl (fun β hβ => (det_neq46 rfl rfl)) ?_
                refine HeadR.done ⟨by kernel_rfl, fun β hβ => ?_⟩
                refine OpsW.norm (F' := [(96, _), (97, _), (98, _), (99, _), (93, _), (12, _), (11, _), (9, _), (5, _), (4, _)]) (H' := [(_, _), (_, _), (_, _), (_, _), (_, _)]) rfl rfl ?_
                refine sNext ?_
                refine W.keep (F' := [(99, _), (12, _), (9, _), (5, _), (4, _)]) ⟨rfl, rfl, rfl, rfl, rfl, trivial⟩ ?_
                refine W.cond rfl (fun hc99 => ?_) (fun hc99 => ?_)
                · skip
                  have hR2 : R = ((0, 0), 13) := by rw [hR, hlong, fin_curve (q := (X.1, Y.1)) (by have h := hc99; simpa using h)]
                  refine sSeq ?_
                  refine W.region ?_
                  refine OpsW.det (det_move rfl) rfl ?_
                  refine OpsW.det (Det.to (det_eql rfl rfl) (congrArg Value.bool (beq_i (by rw [hR2])))) rfl ?_
                  refine OpsW.det (det_assign rfl) rfl ?_
                  refine sNext ?_
                  refine W.keep (F' := [(2, _)]) ⟨rfl, trivial⟩ ?_
                  refine sRet ?_
                  exact done1 Tryd.results4 (rv_tmp rfl) rfl
                · skip
                  have hqq := fin_of (q := (X.1, Y.1)) (by have h := hc99; simpa using h)
                  have hq0 := hqq.2
                  have hR2 : R = rd1 l := hR
                  have hfin : rd1 l = fin1 (X.1, Y.1) true := by rw [hlong, hqq.1]
                  refine sSkip ?_
                  refine sSeq ?_
                  refine W.region ?_
                  refine OpsW.det (det_loadW46 rfl (List.Mem.tail _ (List.Mem.tail _ (List.Mem.head _)))) rfl ?_
                  refine OpsW.det (det_loadW46 rfl (List.Mem.head _)) rfl ?_
                  refine OpsW.det (det_build rfl bld48) rfl ?_
                  refine OpsW.fresh (fr_alloc z48r) rfl fun b14 => ?_
                  refine OpsW.storeW48 rfl rfl (Upd.here) ?_
                  refine sNext ?_
                  refine W.keep (F' := [(14, _), (5, _), (4, _)]) ⟨rfl, rfl, rfl, trivial⟩ ?_
                  refine sSeq ?_
                  rcases hin : inB (X.1, Y.1) with _ | _
                  · skip
                    refine W.region ?_
                    refine OpsW.det (det_loadW48 rfl (List.Mem.head _)) rfl ?_
                    refine OpsW.det (Det.to (det_call en30 rfl (fun w hb ho => PIn_ok (fun p hp => ho.look (List.mem_append_right _ hp)))) (congrArg Value.bool (hin))) rfl ?_
                    refine OpsW.det (det_move rfl) rfl ?_
                    refine OpsW.guard_no rfl rfl rfl ?_
                    refine OpsW.guard_no rfl rfl rfl ?_
                    refine OpsW.det (det_pick rfl rfl) rfl ?_
                    refine OpsW.det (det_move rfl) rfl ?_
                    refine OpsW.guard_no rfl rfl rfl ?_
                    refine OpsW.guard_no rfl rfl rfl ?_
                    refine OpsW.guard_no rfl rfl rfl ?_
                    refine OpsW.det (det_pick rfl rfl) rfl ?_
                    refine OpsW.det (det_move rfl) rfl ?_
                    refine OpsW.guard_yes rfl rfl ?_
                    refine OpsW.det (det_loadW48 rfl (List.Mem.head _)) rfl ?_
                    refine OpsW.guard_yes rfl rfl ?_
                    refine OpsW.det (Det.to (det_call en30 rfl (fun w hb ho => PIn_ok (fun p hp => ho.look (List.mem_append_right _ hp)))) (congrArg Value.bool (hin))) rfl ?_
                    refine OpsW.guard_yes rfl rfl ?_
                    refine OpsW.det (det_not rfl) rfl ?_
                    refine OpsW.guard_yes rfl rfl ?_
                    refine OpsW.det (det_move rfl) rfl ?_
                    refine OpsW.guard_yes rfl rfl ?_
                    refine OpsW.det (det_move rfl) rfl ?_
                    refine OpsW.guard_yes rfl rfl ?_
                    refine OpsW.det (Det.to (det_eql rfl rfl) (congrArg Value.bool (beq_i (by rw [hR2, hfin.trans (fin_grp hq0 hin)])))) rfl ?_
                    refine OpsW.guard_yes rfl rfl ?_
                    refine OpsW.det (det_pick rfl rfl) rfl ?_
                    refine OpsW.det (det_pick rfl rfl) rfl ?_
                    refine OpsW.det (det_assign rfl) rfl ?_
                    refine sNext ?_
                    refine W.keep (F' := [(2, _)]) ⟨rfl, trivial⟩ ?_
                    refine sRet ?_
                    exact done1 Tryd.results4 (rv_tmp rfl) rfl
                  · skip
                    refine W.region ?_
                    refine OpsW.det (det_loadW48 rfl (List.Mem.head _)) rfl ?_
                    refine OpsW.det (Det.to (det_call en30 rfl (fun w hb ho => PIn_ok (fun p hp => ho.look (List.mem_append_right _ hp)))) (congrArg Value.bool (hin))) rfl ?_
                    refine OpsW.det (det_move rfl) rfl ?_
                    refine OpsW.guard_yes rfl rfl ?_
                    refine OpsW.det (det_move rfl) rfl ?_
                    refine OpsW.guard_yes rfl rfl ?_
                    refine OpsW.det (Det.to (det_eql rfl rfl) (congrArg Value.bool (beq_i (by rw [hR2, hfin.trans (fin_ok hq0 hin)])))) rfl ?_
                    refine OpsW.det (det_pick rfl rfl) rfl ?_
                    refine OpsW.det (det_move rfl) rfl ?_
                    refine OpsW.guard_yes rfl rfl ?_
                    refine OpsW.det (det_loadW48 rfl (List.Mem.tail _ (List.Mem.tail _ (List.Mem.tail _ (List.Mem.tail _ (List.Mem.tail _ (List.Mem.head _))))))) rfl ?_
                    refine OpsW.guard_yes rfl rfl ?_
                    refine OpsW.det (det_loadW48 rfl (List.Mem.head _)) rfl ?_
                    refine OpsW.guard_yes rfl rfl ?_
                    refine OpsW.det (Det.to (det_eql48 rfl rfl) (congrArg Value.bool (decide_eq_true (by rw [hR2, hfin.trans (fin_ok hq0 hin)])))) rfl ?_
                    refine OpsW.det (det_pick rfl rfl) rfl ?_
                    refine OpsW.det (det_move rfl) rfl ?_
                    refine OpsW.guard_no rfl rfl rfl ?_
                    refine OpsW.guard_no rfl rfl rfl ?_
                    refine OpsW.guard_no rfl rfl rfl ?_
                    refine OpsW.guard_no rfl rfl rfl ?_
                    refine OpsW.guard_un rfl rfl rfl ?_
                    refine OpsW.guard_un rfl rfl rfl ?_
                    refine OpsW.guard_no rfl rfl rfl ?_
                    refine OpsW.det (det_pick rfl rfl) rfl ?_
                    refine OpsW.det (det_assign rfl) rfl ?_
                    refine sNext ?_
                    refine W.keep (F' := [(2, _)]) ⟨rfl, trivial⟩ ?_
                    refine sRet ?_
                    exact done1 Tryd.results4 (rv_tmp rfl) rfl
            · skip
              have h48 : ¬ 96 < l.length := by have h := hc85; simp at h; omega
              refine sSkip ?_
              refine sSeq ?_
              obtain ⟨sq, hsq⟩ : ∃ s, s = sqrt2 (X.1 * X.1 * X.1 + small 4 4) := ⟨_, rfl⟩
              refine W.region ?_
              refine OpsW.det (det_loadW46 rfl (List.Mem.head _)) rfl ?_
              refine OpsW.det ((det_call en31 rfl (fun w hb ho => Sqrt_ok (x := X.1 * X.1 * X.1 + small 4 4) (fun p hp => ho.look (List.mem_append_right _ hp)))).to (v := .tuple #[encF sq.1, .bool sq.2]) (sqrt_to hsq)) rfl ?_
              refine OpsW.det (det_move rfl) rfl ?_
              refine OpsW.det (det_extract rfl rfl) rfl ?_
              refine OpsW.det (det_extract rfl rfl) rfl ?_
              refine OpsW.fresh (fr_alloc z46r) rfl fun b15 => ?_
              refine OpsW.storeW46 rfl rfl (Upd.here) ?_
              refine OpsW.det (det_assign rfl) rfl ?_
              refine sNext ?_
              refine W.keep (F' := [(16, _), (15, _), (9, _), (5, _), (4, _), (0, _)]) ⟨rfl, rfl, rfl, rfl, rfl, rfl, trivial⟩ ?_
              refine sSeq ?_
              refine sSeq ?_
              refine W.region ?_
              refine OpsW.det (det_move rfl) rfl ?_
              refine OpsW.det (det_not rfl) rfl ?_
              refine sNext ?_
              refine W.keep (F' := [(131, _), (15, _), (9, _), (5, _), (4, _), (0, _)]) ⟨rfl, rfl, rfl, rfl, rfl, rfl, trivial⟩ ?_
              refine W.cond rfl (fun hc131 => ?_) (fun hc131 => ?_)
              · skip
                have hs0 : sq.2 = false := by have h := hc131; simpa using h
                have hR2 : R = ((0, 0), 13) := by rw [hR]; exact Classical.byCases (fun h5 : large2 sq.1 = lB (b0 l) => by rw [rd1_pos hX hsq hE hfb hX0 h48 h5, hs0]; exact fin_no) (fun h5 => by rw [rd1_neg hX hsq hE hfb hX0 h48 h5, hs0]; exact fin_no)
                refine sSeq ?_
                refine W.region ?_
                refine OpsW.det (det_move rfl) rfl ?_
                refine OpsW.det (Det.to (det_eql rfl rfl) (congrArg Value.bool (beq_i (by rw [hR2])))) rfl ?_
                refine OpsW.det (det_assign rfl) rfl ?_
                refine sNext ?_
                refine W.keep (F' := [(2, _)]) ⟨rfl, trivial⟩ ?_
                refine sRet ?_
                exact done1 Tryd.results4 (rv_tmp rfl) rfl
              · skip
                have hs1 : sq.2 = true := by have h := hc131; simpa using h
                have hsqq := sqrt2_sq hsq hs1
                have hR2 : R = rd1 l := hR
                refine sSkip ?_
                refine sSeq ?_
                refine sSeq ?_
                refine W.draw mixed 8 [[], [0], [], [2], [2, 3], [2, 3, 4], [2, 3, 4, 5], [0, 1, 2, 3, 4, 5, 6]] (cl_lt (by decide)) ?_
                refine HeadR.start (cl_lt (by decide)) ?_
                refine HeadR.det rfl (fun β hβ => (det_loadW46 rfl (List.Mem.head _))) ?_
                refine HeadR.det rfl (fun β hβ => (det_call en32 rfl (fun w hb ho => Cw.Large2_ok (fun p hp => ho.look (List.mem_append_right _ hp))))) ?_
                refine HeadR.det rfl (fun β hβ => (det_move rfl)) ?_
                refine HeadR.det rfl (fun β hβ => (det_indexAddr_sl u22 sz5 rfl rfl ⟨by decide, by omega⟩)) ?_
                refine HeadR.det rfl (fun β hβ => (det_loadC_ro ty5 rfl (List.mem_append_left _ hm0) (b0_at hpos hcell0))) ?_
                refine HeadR.det rfl (fun β hβ => (det_and rfl rfl)) ?_
                refine HeadR.det rfl (fun β hβ => ((det_neq (b := 0) rfl rfl).to (v := .bool (lB (b0 l))) rfl)) ?_
                refine HeadR.det rfl (fun β hβ => (det_neqb u4 rfl rfl)) ?_
                refine HeadR.done ⟨by kernel_rfl, fun β hβ => ?_⟩
                refine OpsW.norm (F' := [(134, _), (135, _), (136, _), (137, _), (138, _), (139, _), (140, _), (141, _), (131, _), (15, _), (9, _), (5, _), (4, _), (0, _)]) (H' := [(_, _), (_, _), (_, _), (_, _), (_, _)]) rfl rfl ?_
                refine sNext ?_
                refine W.keep (F' := [(141, _), (15, _), (9, _), (5, _), (4, _)]) ⟨rfl, rfl, rfl, rfl, rfl, trivial⟩ ?_
                refine W.cond rfl (fun hc141 => ?_) (fun hc141 => ?_)
                · skip
                  have hq0 := (fin_of (q := (X.1, 0 - sq.1)) (neg_sq hsqq)).2
                  have hfin : rd1 l = fin1 (X.1, 0 - sq.1) true := by rw [rd1_neg hX hsq hE hfb hX0 h48 (by have h := hc141; simpa using h), hs1]
                  refine W.region ?_
                  refine OpsW.det (det_loadW46 rfl (List.Mem.head _)) rfl ?_
                  refine OpsW.det (det_call en33 rfl (fun w hb ho => Neg_ok (fun p hp => ho.look (List.mem_append_right _ hp)))) rfl ?_
                  refine OpsW.storeW46 rfl rfl (Upd.here) ?_
                  refine sNext ?_
                  refine W.keep (F' := [(15, _), (9, _), (5, _), (4, _)]) ⟨rfl, rfl, rfl, rfl, trivial⟩ ?_
                  refine sSeq ?_
                  refine W.region ?_
                  refine OpsW.det (det_loadW46 rfl (List.Mem.tail _ (List.Mem.tail _ (List.Mem.head _)))) rfl ?_
                  refine OpsW.det (det_loadW46 rfl (List.Mem.head _)) rfl ?_
                  refine OpsW.det (det_build rfl bld48) rfl ?_
                  refine OpsW.fresh (fr_alloc z48r) rfl fun b17 => ?_
                  refine OpsW.storeW48 rfl rfl (Upd.here) ?_
                  refine sNext ?_
                  refine W.keep (F' := [(17, _), (5, _), (4, _)]) ⟨rfl, rfl, rfl, trivial⟩ ?_
                  refine sSeq ?_
                  rcases hin : inB (X.1, 0 - sq.1) with _ | _
                  · skip
                    refine W.region ?_
                    refine OpsW.det (det_loadW48 rfl (List.Mem.head _)) rfl ?_
                    refine OpsW.det (Det.to (det_call en30 rfl (fun w hb ho => PIn_ok (fun p hp => ho.look (List.mem_append_right _ hp)))) (congrArg Value.bool (hin))) rfl ?_
                    refine OpsW.det (det_move rfl) rfl ?_
                    refine OpsW.guard_no rfl rfl rfl ?_
                    refine OpsW.guard_no rfl rfl rfl ?_
                    refine OpsW.det (det_pick rfl rfl) rfl ?_
                    refine OpsW.det (det_move rfl) rfl ?_
                    refine OpsW.guard_no rfl rfl rfl ?_
                    refine OpsW.guard_no rfl rfl rfl ?_
                    refine OpsW.guard_no rfl rfl rfl ?_
                    refine OpsW.det (det_pick rfl rfl) rfl ?_
                    refine OpsW.det (det_move rfl) rfl ?_
                    refine OpsW.guard_yes rfl rfl ?_
                    refine OpsW.det (det_loadW48 rfl (List.Mem.head _)) rfl ?_
                    refine OpsW.guard_yes rfl rfl ?_
                    refine OpsW.det (Det.to (det_call en30 rfl (fun w hb ho => PIn_ok (fun p hp => ho.look (List.mem_append_right _ hp)))) (congrArg Value.bool (hin))) rfl ?_
                    refine OpsW.guard_yes rfl rfl ?_
                    refine OpsW.det (det_not rfl) rfl ?_
                    refine OpsW.guard_yes rfl rfl ?_
                    refine OpsW.det (det_move rfl) rfl ?_
                    refine OpsW.guard_yes rfl rfl ?_
                    refine OpsW.det (det_move rfl) rfl ?_
                    refine OpsW.guard_yes rfl rfl ?_
                    refine OpsW.det (Det.to (det_eql rfl rfl) (congrArg Value.bool (beq_i (by rw [hR2, hfin.trans (fin_grp hq0 hin)])))) rfl ?_
                    refine OpsW.guard_yes rfl rfl ?_
                    refine OpsW.det (det_pick rfl rfl) rfl ?_
                    refine OpsW.det (det_pick rfl rfl) rfl ?_
                    refine OpsW.det (det_assign rfl) rfl ?_
                    refine sNext ?_
                    refine W.keep (F' := [(2, _)]) ⟨rfl, trivial⟩ ?_
                    refine sRet ?_
                    exact done1 Tryd.results4 (rv_tmp rfl) rfl
                  · skip
                    refine W.region ?_
                    refine OpsW.det (det_loadW48 rfl (List.Mem.head _)) rfl ?_
                    refine OpsW.det (Det.to (det_call en30 rfl (fun w hb ho => PIn_ok (fun p hp => ho.look (List.mem_append_right _ hp)))) (congrArg Value.bool (hin))) rfl ?_
                    refine OpsW.det (det_move rfl) rfl ?_
                    refine OpsW.guard_yes rfl rfl ?_
                    refine OpsW.det (det_move rfl) rfl ?_
                    refine OpsW.guard_yes rfl rfl ?_
                    refine OpsW.det (Det.to (det_eql rfl rfl) (congrArg Value.bool (beq_i (by rw [hR2, hfin.trans (fin_ok hq0 hin)])))) rfl ?_
                    refine OpsW.det (det_pick rfl rfl) rfl ?_
                    refine OpsW.det (det_move rfl) rfl ?_
                    refine OpsW.guard_yes rfl rfl ?_
                    refine OpsW.det (det_loadW48 rfl (List.Mem.tail _ (List.Mem.tail _ (List.Mem.tail _ (List.Mem.tail _ (List.Mem.tail _ (List.Mem.head _))))))) rfl ?_
                    refine OpsW.guard_yes rfl rfl ?_
                    refine OpsW.det (det_loadW48 rfl (List.Mem.head _)) rfl ?_
                    refine OpsW.guard_yes rfl rfl ?_
                    refine OpsW.det (Det.to (det_eql48 rfl rfl) (congrArg Value.bool (decide_eq_true (by rw [hR2, hfin.trans (fin_ok hq0 hin)])))) rfl ?_
                    refine OpsW.det (det_pick rfl rfl) rfl ?_
                    refine OpsW.det (det_move rfl) rfl ?_
                    refine OpsW.guard_no rfl rfl rfl ?_
                    refine OpsW.guard_no rfl rfl rfl ?_
                    refine OpsW.guard_no rfl rfl rfl ?_
                    refine OpsW.guard_no rfl rfl rfl ?_
                    refine OpsW.guard_un rfl rfl rfl ?_
                    refine OpsW.guard_un rfl rfl rfl ?_
                    refine OpsW.guard_no rfl rfl rfl ?_
                    refine OpsW.det (det_pick rfl rfl) rfl ?_
                    refine OpsW.det (det_assign rfl) rfl ?_
                    refine sNext ?_
                    refine W.keep (F' := [(2, _)]) ⟨rfl, trivial⟩ ?_
                    refine sRet ?_
                    exact done1 Tryd.results4 (rv_tmp rfl) rfl
                · skip
                  have hq0 := (fin_of (q := (X.1, sq.1)) hsqq).2
                  have hfin : rd1 l = fin1 (X.1, sq.1) true := by rw [rd1_pos hX hsq hE hfb hX0 h48 (by have h := hc141; simpa using h), hs1]
                  refine sSkip ?_
                  refine sSeq ?_
                  refine W.region ?_
                  refine OpsW.det (det_loadW46 rfl (List.Mem.tail _ (List.Mem.tail _ (List.Mem.head _)))) rfl ?_
                  refine OpsW.det (det_loadW46 rfl (List.Mem.head _)) rfl ?_
                  refine OpsW.det (det_build rfl bld48) rfl ?_
                  refine OpsW.fresh (fr_alloc z48r) rfl fun b17 => ?_
                  refine OpsW.storeW48 rfl rfl (Upd.here) ?_
                  refine sNext ?_
                  refine W.keep (F' := [(17, _), (5, _), (4, _)]) ⟨rfl, rfl, rfl, trivial⟩ ?_
                  refine sSeq ?_
                  rcases hin : inB (X.1, sq.1) with _ | _
                  · skip
                    refine W.region ?_
                    refine OpsW.det (det_loadW48 rfl (List.Mem.head _)) rfl ?_
                    refine OpsW.det (Det.to (det_call en30 rfl (fun w hb ho => PIn_ok (fun p hp => ho.look (List.mem_append_right _ hp)))) (congrArg Value.bool (hin))) rfl ?_
                    refine OpsW.det (det_move rfl) rfl ?_
                    refine OpsW.guard_no rfl rfl rfl ?_
                    refine OpsW.guard_no rfl rfl rfl ?_
                    refine OpsW.det (det_pick rfl rfl) rfl ?_
                    refine OpsW.det (det_move rfl) rfl ?_
                    refine OpsW.guard_no rfl rfl rfl ?_
                    refine OpsW.guard_no rfl rfl rfl ?_
                    refine OpsW.guard_no rfl rfl rfl ?_
                    refine OpsW.det (det_pick rfl rfl) rfl ?_
                    refine OpsW.det (det_move rfl) rfl ?_
                    refine OpsW.guard_yes rfl rfl ?_
                    refine OpsW.det (det_loadW48 rfl (List.Mem.head _)) rfl ?_
                    refine OpsW.guard_yes rfl rfl ?_
                    refine OpsW.det (Det.to (det_call en30 rfl (fun w hb ho => PIn_ok (fun p hp => ho.look (List.mem_append_right _ hp)))) (congrArg Value.bool (hin))) rfl ?_
                    refine OpsW.guard_yes rfl rfl ?_
                    refine OpsW.det (det_not rfl) rfl ?_
                    refine OpsW.guard_yes rfl rfl ?_
                    refine OpsW.det (det_move rfl) rfl ?_
                    refine OpsW.guard_yes rfl rfl ?_
                    refine OpsW.det (det_move rfl) rfl ?_
                    refine OpsW.guard_yes rfl rfl ?_
                    refine OpsW.det (Det.to (det_eql rfl rfl) (congrArg Value.bool (beq_i (by rw [hR2, hfin.trans (fin_grp hq0 hin)])))) rfl ?_
                    refine OpsW.guard_yes rfl rfl ?_
                    refine OpsW.det (det_pick rfl rfl) rfl ?_
                    refine OpsW.det (det_pick rfl rfl) rfl ?_
                    refine OpsW.det (det_assign rfl) rfl ?_
                    refine sNext ?_
                    refine W.keep (F' := [(2, _)]) ⟨rfl, trivial⟩ ?_
                    refine sRet ?_
                    exact done1 Tryd.results4 (rv_tmp rfl) rfl
                  · skip
                    refine W.region ?_
                    refine OpsW.det (det_loadW48 rfl (List.Mem.head _)) rfl ?_
                    refine OpsW.det (Det.to (det_call en30 rfl (fun w hb ho => PIn_ok (fun p hp => ho.look (List.mem_append_right _ hp)))) (congrArg Value.bool (hin))) rfl ?_
                    refine OpsW.det (det_move rfl) rfl ?_
                    refine OpsW.guard_yes rfl rfl ?_
                    refine OpsW.det (det_move rfl) rfl ?_
                    refine OpsW.guard_yes rfl rfl ?_
                    refine OpsW.det (Det.to (det_eql rfl rfl) (congrArg Value.bool (beq_i (by rw [hR2, hfin.trans (fin_ok hq0 hin)])))) rfl ?_
                    refine OpsW.det (det_pick rfl rfl) rfl ?_
                    refine OpsW.det (det_move rfl) rfl ?_
                    refine OpsW.guard_yes rfl rfl ?_
                    refine OpsW.det (det_loadW48 rfl (List.Mem.tail _ (List.Mem.tail _ (List.Mem.tail _ (List.Mem.tail _ (List.Mem.tail _ (List.Mem.head _))))))) rfl ?_
                    refine OpsW.guard_yes rfl rfl ?_
                    refine OpsW.det (det_loadW48 rfl (List.Mem.head _)) rfl ?_
                    refine OpsW.guard_yes rfl rfl ?_
                    refine OpsW.det (Det.to (det_eql48 rfl rfl) (congrArg Value.bool (decide_eq_true (by rw [hR2, hfin.trans (fin_ok hq0 hin)])))) rfl ?_
                    refine OpsW.det (det_pick rfl rfl) rfl ?_
                    refine OpsW.det (det_move rfl) rfl ?_
                    refine OpsW.guard_no rfl rfl rfl ?_
                    refine OpsW.guard_no rfl rfl rfl ?_
                    refine OpsW.guard_no rfl rfl rfl ?_
                    refine OpsW.guard_no rfl rfl rfl ?_
                    refine OpsW.guard_un rfl rfl rfl ?_
                    refine OpsW.guard_un rfl rfl rfl ?_
                    refine OpsW.guard_no rfl rfl rfl ?_
                    refine OpsW.det (det_pick rfl rfl) rfl ?_
                    refine OpsW.det (det_assign rfl) rfl ?_
                    refine sNext ?_
                    refine W.keep (F' := [(2, _)]) ⟨rfl, trivial⟩ ?_
                    refine sRet ?_
                    exact done1 Tryd.results4 (rv_tmp rfl) rfl
      · skip
        have hRM : R = ((0, 0), M.1) := by rw [hR, hM, rd1_mark (hM ▸ hM0)]
        refine W.region ?_
        refine OpsW.det (det_move rfl) rfl ?_
        refine OpsW.det (Det.to (det_neq rfl rfl) (congrArg Value.bool ((bne_iff_ne.2 hM0)))) rfl ?_
        refine OpsW.det (det_move rfl) rfl ?_
        refine OpsW.guard_no rfl rfl rfl ?_
        refine OpsW.det (det_pick rfl rfl) rfl ?_
        refine sNext ?_
        refine W.keep (F' := [(51, _), (6, _), (5, _), (4, _), (0, _)]) ⟨rfl, rfl, rfl, rfl, rfl, trivial⟩ ?_
        refine W.cond_true rfl ?_
        refine sSeq ?_
        refine W.region ?_
        refine OpsW.det (det_move rfl) rfl ?_
        refine OpsW.det (det_move rfl) rfl ?_
        refine OpsW.det (Det.to (det_eql rfl rfl) (congrArg Value.bool (beq_i (by rw [hRM])))) rfl ?_
        refine OpsW.det (det_move rfl) rfl ?_
        refine OpsW.guard_yes rfl rfl ?_
        refine OpsW.det (det_loadW48 rfl (List.Mem.head _)) rfl ?_
        refine OpsW.guard_yes rfl rfl ?_
        refine OpsW.det (det_zero bz48) rfl ?_
        refine OpsW.guard_yes rfl rfl ?_
        refine OpsW.det (Det.to (det_eql48 rfl rfl) (congrArg Value.bool (decide_eq_true (by rw [hRM])))) rfl ?_
        refine OpsW.det (det_pick rfl rfl) rfl ?_
        refine OpsW.det (det_assign rfl) rfl ?_
        refine sNext ?_
        refine W.keep (F' := [(2, _)]) ⟨rfl, trivial⟩ ?_
        refine sRet ?_
        exact done1 Tryd.results4 (rv_tmp rfl) rfl

end Go.Cw
