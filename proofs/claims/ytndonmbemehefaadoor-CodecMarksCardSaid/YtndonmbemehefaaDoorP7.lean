/-
  Part 7 of the joined texts of the curves' laws: The field with i: numbers read, roots: the walks. Conditions: none.
  Conditions: those that each theorem states.
-/
import Derived.Test.YtndonmbemehefaaDoorP6
import Derived.Test.YtndonmbemehefaaDoorP5
import Derived.Test.YtndonmbemehefaaDoorP2
import Derived.Test.YtndonmbemehefaaDoorCards
import Derived.Test.YtndonmbemehefaaDoorTie
import Derived.WalkKit
import Derived.ProofKit
import Derived.OpenShut
/- The field with i: numbers read, roots: the walks. Conditions: none. -/
namespace Go.Cw
open Go Go.Vm Go.RowKit Go.Proofs Go.Cu
attribute [local irreducible] W OpsW Det Fresh New Writes Vm.Pure Makes Changes ExternTo BuildTo ZeroTo FieldTo IndexTo BinTo SliceTo Vm.Enters
set_option linter.unusedVariables false
set_option linter.unusedSimpArgs false
variable {T : Nat → TypeId × Nat × Nat}

def odd2 (x : Fq2) : Bool := if x.a = 0 then oddF x.b else oddF x.a
theorem odd2_yes {x : Fq2} (h : decide (x.a = 0) = true) : odd2 x = oddF x.b := if_pos (of_decide_eq_true h)
theorem odd2_no {x : Fq2} (h : decide (x.a = 0) = false) : odd2 x = oddF x.a := if_neg (of_decide_eq_false h)
/-- 96 bytes: b first. -/
def read2 (l : List Nat) : Fq2 × Int := if l.length ≠ 96 then (0, 10) else if (readF (l.take 48)).2 ≠ 0 ∨ (readF (l.drop 48)).2 ≠ 0 then (0, 12) else (⟨(readF (l.drop 48)).1, (readF (l.take 48)).1⟩, 0)
theorem read2_len {l : List Nat} (h : l.length ≠ 96) : read2 l = (0, 10) := if_pos h
theorem read2_no {l : List Nat} (h : l.length = 96) (h2 : (readF (l.take 48)).2 ≠ 0 ∨ (readF (l.drop 48)).2 ≠ 0) : read2 l = (0, 12) := by unfold read2; rw [if_neg (by omega), if_pos h2]
theorem read2_yes {l : List Nat} (h : l.length = 96) (h1 : (readF (l.take 48)).2 = 0) (h2 : (readF (l.drop 48)).2 = 0) : read2 l = (⟨(readF (l.drop 48)).1, (readF (l.take 48)).1⟩, 0) := by
  unfold read2; rw [if_neg (by omega), if_neg (fun h => h.elim (fun h => h h1) (fun h => h h2))]
theorem read2_post {l : List Nat} {x : Fq2} {e : Int} (h : read2 l = (x, e)) : Value.tuple #[encF x, .int .i64 e] = .tuple #[encF (read2 l).1, .int .i64 (read2 l).2] := by rw [h]
/-- A piece of a slice of bytes. -/
theorem Bs_take {G' : Hp} {b o cap k : Nat} {l : List Nat} {ad : Option Addr} (hB : Bs G' (.slice (some ⟨b, o, none⟩) l.length cap) l) (hk : k ≤ l.length) : Bs G' (.slice (some ⟨b, o, none⟩) k cap) (l.take k) := by
  have hl : (l.take k).length = k := by rw [List.length_take]; omega
  refine ⟨⟨_, _, by rw [hl]⟩, fun c hc => hB.small c (List.mem_of_mem_take hc), fun h => ?_⟩
  obtain ⟨b', o', cap', cs, e, fr, hv, hm, hcap, hcs⟩ := hB.all (by omega)
  simp only [Value.slice.injEq, Option.some.injEq, Addr.mk.injEq] at hv
  obtain ⟨⟨rfl, rfl, _⟩, _, rfl⟩ := hv
  exact ⟨b, o, cap, cs, e, fr, by rw [hl], hm, by omega, fun i hi => by rw [hcs i (by omega), List.getElem_take]⟩
theorem Bs_drop {G' : Hp} {b o cap k : Nat} {l : List Nat} (hB : Bs G' (.slice (some ⟨b, o, none⟩) l.length cap) l) (hk : k < l.length) : Bs G' (.slice (some ⟨b, o + k, none⟩) (l.length - k) (cap - k)) (l.drop k) := by
  have hl : (l.drop k).length = l.length - k := List.length_drop
  refine ⟨⟨_, _, by rw [hl]⟩, fun c hc => hB.small c (List.mem_of_mem_drop hc), fun h => ?_⟩
  obtain ⟨b', o', cap', cs, e, fr, hv, hm, hcap, hcs⟩ := hB.all (by omega)
  simp only [Value.slice.injEq, Option.some.injEq, Addr.mk.injEq] at hv
  obtain ⟨⟨rfl, rfl, _⟩, _, rfl⟩ := hv
  exact ⟨b, o + k, cap - k, cs, e, fr, by rw [hl], hm, by omega, fun i hi => by rw [Nat.add_assoc, hcs (k + i) (by omega), List.getElem_drop]⟩

/-- The root by halves: f tries, the first with n. -/
def s2from (x : Fq2) (h : Fq) : Nat → Fq → Fq2 × Bool
  | 0, _ => (0, false)
  | f + 1, n => if (sqrtF ((x.a + n) * h)).2 = true ∧ (sqrtF ((x.a + n) * h)).1 ≠ 0 then (⟨(sqrtF ((x.a + n) * h)).1, x.b * h * inv (sqrtF ((x.a + n) * h)).1⟩, true) else s2from x h f (0 - n)
def sqrt2 (x : Fq2) : Fq2 × Bool :=
  if x.b = 0 then (if (sqrtF x.a).2 = true then (⟨(sqrtF x.a).1, 0⟩, true) else (⟨0, (sqrtF (0 - x.a)).1⟩, true))
  else if (sqrtF (norm2 x)).2 = true then s2from x (inv (Zp.of 2)) 2 (sqrtF (norm2 x)).1 else (0, false)
theorem sqrt2_a {x : Fq2} (h : decide (x.b = 0) = true) (h2 : (sqrtF x.a).2 = true) : sqrt2 x = (⟨(sqrtF x.a).1, 0⟩, true) := (if_pos (of_decide_eq_true h)).trans (if_pos h2)
theorem sqrt2_b {x : Fq2} (h : decide (x.b = 0) = true) (h2 : (sqrtF x.a).2 = false) : sqrt2 x = (⟨0, (sqrtF (0 - x.a)).1⟩, true) := (if_pos (of_decide_eq_true h)).trans (if_neg (by rw [h2]; decide))
theorem sqrt2_c {x : Fq2} (h : decide (x.b = 0) = false) (h2 : (!(sqrtF (norm2 x)).2) = true) : sqrt2 x = (0, false) := (if_neg (of_decide_eq_false h)).trans (if_neg (by simpa using h2))
theorem sqrt2_d {x : Fq2} (h : decide (x.b = 0) = false) (h2 : (!(sqrtF (norm2 x)).2) = false) : sqrt2 x = s2from x (inv (Zp.of 2)) 2 (sqrtF (norm2 x)).1 := (if_neg (of_decide_eq_false h)).trans (if_pos (by simpa using h2))
theorem s2_hit {x : Fq2} {h n : Fq} {i : Nat} {r : Fq2 × Bool} (hi : i < 2) (hr : r = s2from x h (2 - i) n) (h1 : (sqrtF ((x.a + n) * h)).2 = true) (h2 : (!decide ((sqrtF ((x.a + n) * h)).1 = 0)) = true) :
    r = (⟨(sqrtF ((x.a + n) * h)).1, x.b * h * inv (sqrtF ((x.a + n) * h)).1⟩, true) := by
  rw [hr, show 2 - i = (2 - (i + 1)) + 1 by omega, s2from, if_pos ⟨h1, by simpa using h2⟩]
theorem s2_no {x : Fq2} {h n : Fq} {i : Nat} {r : Fq2 × Bool} (hi : i < 2) (hr : r = s2from x h (2 - i) n) (h1 : (sqrtF ((x.a + n) * h)).2 = false) : r = s2from x h (2 - (i + 1)) (0 - n) := by
  rw [hr, show 2 - i = (2 - (i + 1)) + 1 by omega, s2from, if_neg (by rw [h1]; simp)]
theorem s2_zero {x : Fq2} {h n : Fq} {i : Nat} {r : Fq2 × Bool} (hi : i < 2) (hr : r = s2from x h (2 - i) n) (h2 : (!decide ((sqrtF ((x.a + n) * h)).1 = 0)) = false) : r = s2from x h (2 - (i + 1)) (0 - n) := by
  rw [hr, show 2 - i = (2 - (i + 1)) + 1 by omega, s2from, if_neg (by
    have h2 : (sqrtF ((x.a + n) * h)).1 = 0 := by simpa using h2
    rw [h2]; simp)]
theorem s2_end {x : Fq2} {h n : Fq} {i : Nat} {r : Fq2 × Bool} (hi : i ≤ 2) (hi2 : ¬ i < 2) (hr : r = s2from x h (2 - i) n) : r = (0, false) := by
  rw [hr, show 2 - i = 0 by omega, s2from]
theorem sqrt2_post {x y : Fq2} {b : Bool} (h : sqrt2 x = (y, b)) : Value.tuple #[encF y, .bool b] = .tuple #[encF (sqrt2 x).1, .bool (sqrt2 x).2] := by rw [h]

theorem bld46_0 {a : Fq} : BuildTo Tryd.prog 46 [(0, Cu.encF a)] (encF ⟨a, 0⟩) := BuildTo.of fun _ => by kernel_rfl
theorem bld46_1 {b : Fq} : BuildTo Tryd.prog 46 [(1, Cu.encF b)] (encF ⟨0, b⟩) := BuildTo.of fun _ => by kernel_rfl
theorem ty32 : TyC Tryd.prog 32 := ⟨by kernel_rfl, by kernel_rfl⟩
theorem Read_ok {G' : Hp} {v : Value} {l : List Nat} (hB : Bs G' v l) {w : World} (hG : Blocks (G' ++ GH T) w)  : Vm.Pure Tryd.prog 25 #[v] w (.tuple #[encF (read2 l).1, .int .i64 (read2 l).2]) := by
  obtain ⟨ad, cap, hvv⟩ := hB.shape
  refine pure_of_W (n := 34) (args := [v]) Tryd.func25 rfl Tryd.ntmps25 (Nat.le_of_ble_eq_true rfl) hG ?_
  refine sStart ?_
  refine sSeq ?_
  subst hvv
  refine W.region ?_
  refine OpsW.fresh (fr_alloc z46r) rfl fun b2 => ?_
  refine OpsW.det (det_assign rfl) rfl ?_
  refine sNext ?_
  refine W.keep (F' := [(2, _), (0, _)]) ⟨rfl, rfl, trivial⟩ ?_
  refine sSeq ?_
  refine sSeq ?_
  refine W.region ?_
  refine OpsW.det (det_move rfl) rfl ?_
  refine OpsW.det (det_len u22 rfl) rfl ?_
  refine OpsW.det (det_neq rfl rfl) rfl ?_
  refine sNext ?_
  refine W.keep (F' := [(10, _), (2, _), (0, _)]) ⟨rfl, rfl, rfl, trivial⟩ ?_
  refine W.cond rfl (fun hc10 => ?_) (fun hc10 => ?_)
  · skip
    have hne : l.length ≠ 96 := by have h := hc10; simp at h; omega
    refine sSeq ?_
    refine W.region ?_
    refine OpsW.det (det_zero bz46) rfl ?_
    refine OpsW.storeW46 rfl rfl (Upd.here) ?_
    refine OpsW.det (det_assign rfl) rfl ?_
    refine sNext ?_
    refine W.keep (F' := [(3, _), (2, _)]) ⟨rfl, rfl, trivial⟩ ?_
    refine sRet ?_
    exact done2 Tryd.results25 (rv_cellA ty46 rfl (List.Mem.head _) rfl) (rv_tmp rfl) (read2_post (read2_len hne))
  · skip
    have h96 : l.length = 96 := by have h := hc10; simp at h; omega
    obtain ⟨bk, o, cap', cs, e, fr, hv, hm, hcap, hcs⟩ := hB.all (by omega)
    simp only [Value.slice.injEq] at hv
    obtain ⟨rfl, _, rfl⟩ := hv
    have h1 := Bs_take (ad := none) hB (k := 48) (by omega)
    have h2 := Bs_drop hB (k := 48) (by omega)
    refine sSkip ?_
    refine sSeq ?_
    refine W.region ?_
    refine OpsW.det (det_move rfl) rfl ?_
    refine OpsW.det ((det_slice (lo := none) (hi := some (.const (.int .i64 48))) (l := 0) (h := 48) u22 sz5 rfl rfl ⟨_, rfl⟩ (by omega) (by omega) (by omega)).to (v := .slice (some ⟨bk, o, none⟩) 48 cap) (by simp)) rfl ?_
    refine OpsW.det (det_call en15 rfl (fun w hb ho => Cu.Read_ok (G' := G') (l := l.take 48) h1 ho.blocks)) rfl ?_
    refine OpsW.det (det_move rfl) rfl ?_
    refine OpsW.det (det_extract rfl rfl) rfl ?_
    refine OpsW.det (det_extract rfl rfl) rfl ?_
    refine OpsW.fresh (fr_alloc z29) rfl fun b4 => ?_
    refine OpsW.store sz29 rfl rfl rfl rfl rfl (Upd.here) rfl ?_
    refine OpsW.det (det_assign rfl) rfl ?_
    refine sNext ?_
    refine W.keep (F' := [(5, _), (4, _), (2, _), (0, _)]) ⟨rfl, rfl, rfl, rfl, trivial⟩ ?_
    refine sSeq ?_
    refine W.region ?_
    refine OpsW.det (det_move rfl) rfl ?_
    refine OpsW.det ((det_slice (lo := some (.const (.int .i64 48))) (hi := none) (l := 48) (h := l.length) u22 sz5 rfl ⟨_, rfl⟩ rfl (by omega) (by omega) (by omega)).to (v := .slice (some ⟨bk, o + 48, none⟩) (l.length - 48) (cap - 48)) (by rw [if_neg (by omega), Nat.mul_one])) rfl ?_
    refine OpsW.det (det_call en15 rfl (fun w hb ho => Cu.Read_ok (G' := G') (l := l.drop 48) h2 ho.blocks)) rfl ?_
    refine OpsW.det (det_move rfl) rfl ?_
    refine OpsW.det (det_extract rfl rfl) rfl ?_
    refine OpsW.det (det_extract rfl rfl) rfl ?_
    refine OpsW.fresh (fr_alloc z29) rfl fun b6 => ?_
    refine OpsW.store sz29 rfl rfl rfl rfl rfl (Upd.here) rfl ?_
    refine OpsW.det (det_assign rfl) rfl ?_
    refine sNext ?_
    refine W.keep (F' := [(7, _), (6, _), (5, _), (4, _), (2, _)]) ⟨rfl, rfl, rfl, rfl, rfl, trivial⟩ ?_
    refine sSeq ?_
    refine sSeq ?_
    refine W.region ?_
    refine OpsW.det (det_move rfl) rfl ?_
    refine OpsW.test ((det_neq (b := 0) rfl rfl)) rfl (fun hc25 => ?_) (fun hc25 => ?_)
    · skip
      refine OpsW.det (det_move rfl) rfl ?_
      refine OpsW.guard_no rfl rfl rfl ?_
      refine OpsW.guard_no rfl rfl rfl ?_
      refine OpsW.det (det_pick rfl rfl) rfl ?_
      refine sNext ?_
      refine W.keep (F' := [(29, _), (6, _), (4, _), (2, _)]) ⟨rfl, rfl, rfl, rfl, trivial⟩ ?_
      refine W.cond_true rfl ?_
      refine sSeq ?_
      refine W.region ?_
      refine OpsW.det (det_zero bz46) rfl ?_
      refine OpsW.storeW46 rfl rfl (Upd.there (Upd.there (Upd.here))) ?_
      refine OpsW.det (det_assign rfl) rfl ?_
      refine sNext ?_
      refine W.keep (F' := [(3, _), (2, _)]) ⟨rfl, rfl, trivial⟩ ?_
      refine sRet ?_
      exact done2 Tryd.results25 (rv_cellA ty46 rfl (List.Mem.tail _ (List.Mem.tail _ (List.Mem.head _))) rfl) (rv_tmp rfl) (read2_post (read2_no h96 (.inl (by have h := hc25; simpa using h))))
    · skip
      refine OpsW.det (det_move rfl) rfl ?_
      refine OpsW.guard_yes rfl rfl ?_
      refine OpsW.det (det_move rfl) rfl ?_
      refine OpsW.guard_yes rfl rfl ?_
      refine OpsW.det ((det_neq (b := 0) rfl rfl)) rfl ?_
      refine OpsW.det (det_pick rfl rfl) rfl ?_
      refine sNext ?_
      refine W.keep (F' := [(29, _), (6, _), (4, _), (2, _)]) ⟨rfl, rfl, rfl, rfl, trivial⟩ ?_
      refine W.cond rfl (fun hc29 => ?_) (fun hc29 => ?_)
      · skip
        refine sSeq ?_
        refine W.region ?_
        refine OpsW.det (det_zero bz46) rfl ?_
        refine OpsW.storeW46 rfl rfl (Upd.there (Upd.there (Upd.here))) ?_
        refine OpsW.det (det_assign rfl) rfl ?_
        refine sNext ?_
        refine W.keep (F' := [(3, _), (2, _)]) ⟨rfl, rfl, trivial⟩ ?_
        refine sRet ?_
        exact done2 Tryd.results25 (rv_cellA ty46 rfl (List.Mem.tail _ (List.Mem.tail _ (List.Mem.head _))) rfl) (rv_tmp rfl) (read2_post (read2_no h96 (.inr (by have h := hc29; simpa using h))))
      · skip
        refine sSkip ?_
        refine sSeq ?_
        refine W.region ?_
        refine OpsW.det (det_loadA ty29 rfl (List.Mem.head _) rfl) rfl ?_
        refine OpsW.det (det_loadA ty29 rfl (List.Mem.tail _ (List.Mem.head _)) rfl) rfl ?_
        refine OpsW.det (det_build rfl bld46) rfl ?_
        refine OpsW.storeW46 rfl rfl (Upd.there (Upd.there (Upd.here))) ?_
        refine OpsW.det (det_assign rfl) rfl ?_
        refine sNext ?_
        refine W.keep (F' := [(3, _), (2, _)]) ⟨rfl, rfl, trivial⟩ ?_
        refine sRet ?_
        exact done2 Tryd.results25 (rv_cellA ty46 rfl (List.Mem.tail _ (List.Mem.tail _ (List.Mem.head _))) rfl) (rv_tmp rfl) (read2_post (read2_yes h96 (by have h := hc25; simpa using h) (by have h := hc29; simpa using h)))
set_option maxHeartbeats 2000000 in
theorem Sqrt_ok {x : Fq2} {w : World} (hG : Blocks (GH T) w)  : Vm.Pure Tryd.prog 31 #[encF x] w (.tuple #[encF (sqrt2 x).1, .bool (sqrt2 x).2]) := by
  refine pure_of_W (n := 76) (args := [encF x]) Tryd.func31 rfl Tryd.ntmps31 (Nat.le_of_ble_eq_true rfl) hG ?_
  refine sStart ?_
  refine sSeq ?_
  refine W.region ?_
  refine OpsW.fresh (fr_boxW46 rfl) rfl fun b1 => ?_
  refine OpsW.fresh (fr_alloc z46r) rfl fun b2 => ?_
  refine OpsW.det (det_assign rfl) rfl ?_
  refine sNext ?_
  refine W.keep (F' := [(2, _), (1, _)]) ⟨rfl, rfl, trivial⟩ ?_
  refine sSeq ?_
  refine sSeq ?_
  refine W.region ?_
  refine OpsW.det (det_fieldAddr fl46_1 rfl) rfl ?_
  refine OpsW.det (det_loadA ty29 rfl (List.Mem.tail _ (List.Mem.head _)) rfl) rfl ?_
  refine OpsW.det (det_call en65 rfl (fun w hb ho => Cu.Zero_ok ho.blocks)) rfl ?_
  refine sNext ?_
  refine W.keep (F' := [(15, _), (2, _), (1, _)]) ⟨rfl, rfl, rfl, trivial⟩ ?_
  refine W.cond rfl (fun hc15 => ?_) (fun hc15 => ?_)
  · skip
    refine sSeq ?_
    refine sSeq ?_
    refine W.region ?_
    refine OpsW.det (det_fieldAddr fl46_0 rfl) rfl ?_
    refine OpsW.det (det_loadA ty29 rfl (List.Mem.tail _ (List.Mem.head _)) rfl) rfl ?_
    refine OpsW.det (det_call en21 rfl (fun w hb ho => Cu.Sqrt_ok ho.blocks)) rfl ?_
    refine OpsW.det (det_move rfl) rfl ?_
    refine OpsW.det (det_extract rfl rfl) rfl ?_
    refine OpsW.det (det_extract rfl rfl) rfl ?_
    refine OpsW.fresh (fr_alloc z29) rfl fun b4 => ?_
    refine OpsW.store sz29 rfl rfl rfl rfl rfl (Upd.here) rfl ?_
    refine OpsW.det (det_assign rfl) rfl ?_
    refine sNext ?_
    refine W.keep (F' := [(5, _), (4, _), (2, _), (1, _)]) ⟨rfl, rfl, rfl, rfl, trivial⟩ ?_
    refine sSeq ?_
    refine W.region ?_
    refine OpsW.det (det_move rfl) rfl ?_
    refine sNext ?_
    refine W.keep (F' := [(22, _), (4, _), (2, _), (1, _)]) ⟨rfl, rfl, rfl, rfl, trivial⟩ ?_
    refine W.cond rfl (fun hc22 => ?_) (fun hc22 => ?_)
    · skip
      refine sSeq ?_
      refine W.region ?_
      refine OpsW.det (det_loadA ty29 rfl (List.Mem.head _) rfl) rfl ?_
      refine OpsW.det (det_build rfl bld46_0) rfl ?_
      refine OpsW.storeW46 rfl rfl (Upd.there (Upd.here)) ?_
      refine OpsW.det (det_assign rfl) rfl ?_
      refine sNext ?_
      refine W.keep (F' := [(3, _), (2, _)]) ⟨rfl, rfl, trivial⟩ ?_
      refine sRet ?_
      exact done2 Tryd.results31 (rv_cellA ty46 rfl (List.Mem.tail _ (List.Mem.head _)) rfl) (rv_tmp rfl) (sqrt2_post (sqrt2_a hc15 hc22))
    · skip
      refine sSkip ?_
      refine sSeq ?_
      refine W.region ?_
      refine OpsW.det (det_fieldAddr fl46_0 rfl) rfl ?_
      refine OpsW.det (det_loadA ty29 rfl (List.Mem.tail _ (List.Mem.tail _ (List.Mem.head _))) rfl) rfl ?_
      refine OpsW.det (det_call en23 rfl (fun w hb ho => Cu.Neg_ok ho.blocks)) rfl ?_
      refine OpsW.det (det_call en21 rfl (fun w hb ho => Cu.Sqrt_ok ho.blocks)) rfl ?_
      refine OpsW.det (det_move rfl) rfl ?_
      refine OpsW.det (det_extract rfl rfl) rfl ?_
      refine OpsW.det (det_extract rfl rfl) rfl ?_
      refine OpsW.fresh (fr_alloc z29) rfl fun b6 => ?_
      refine OpsW.store sz29 rfl rfl rfl rfl rfl (Upd.here) rfl ?_
      refine OpsW.det (det_assign rfl) rfl ?_
      refine sNext ?_
      refine W.keep (F' := [(6, _), (2, _)]) ⟨rfl, rfl, trivial⟩ ?_
      refine sSeq ?_
      refine W.region ?_
      refine OpsW.det (det_loadA ty29 rfl (List.Mem.head _) rfl) rfl ?_
      refine OpsW.det (det_build rfl bld46_1) rfl ?_
      refine OpsW.storeW46 rfl rfl (Upd.there (Upd.there (Upd.here))) ?_
      refine OpsW.det (det_assign rfl) rfl ?_
      refine sNext ?_
      refine W.keep (F' := [(3, _), (2, _)]) ⟨rfl, rfl, trivial⟩ ?_
      refine sRet ?_
      exact done2 Tryd.results31 (rv_cellA ty46 rfl (List.Mem.tail _ (List.Mem.tail _ (List.Mem.head _))) rfl) (rv_tmp rfl) (sqrt2_post (sqrt2_b hc15 hc22))
  · skip
    refine sSkip ?_
    refine sSeq ?_
    refine W.region ?_
    refine OpsW.det (det_loadW46 rfl (List.Mem.tail _ (List.Mem.head _))) rfl ?_
    refine OpsW.det (det_call en66 rfl (fun w hb ho => Norm_ok ho.blocks)) rfl ?_
    refine OpsW.det (det_call en21 rfl (fun w hb ho => Cu.Sqrt_ok ho.blocks)) rfl ?_
    refine OpsW.det (det_move rfl) rfl ?_
    refine OpsW.det (det_extract rfl rfl) rfl ?_
    refine OpsW.det (det_extract rfl rfl) rfl ?_
    refine OpsW.fresh (fr_alloc z29) rfl fun b8 => ?_
    refine OpsW.store sz29 rfl rfl rfl rfl rfl (Upd.here) rfl ?_
    refine OpsW.det (det_assign rfl) rfl ?_
    refine sNext ?_
    refine W.keep (F' := [(9, _), (8, _), (2, _), (1, _)]) ⟨rfl, rfl, rfl, rfl, trivial⟩ ?_
    refine sSeq ?_
    refine sSeq ?_
    refine W.region ?_
    refine OpsW.det (det_move rfl) rfl ?_
    refine OpsW.det (det_not rfl) rfl ?_
    refine sNext ?_
    refine W.keep (F' := [(41, _), (8, _), (2, _), (1, _)]) ⟨rfl, rfl, rfl, rfl, trivial⟩ ?_
    refine W.cond rfl (fun hc41 => ?_) (fun hc41 => ?_)
    · skip
      refine sSeq ?_
      refine W.region ?_
      refine OpsW.det (det_zero bz46) rfl ?_
      refine OpsW.storeW46 rfl rfl (Upd.there (Upd.here)) ?_
      refine OpsW.det (det_assign rfl) rfl ?_
      refine sNext ?_
      refine W.keep (F' := [(3, _), (2, _)]) ⟨rfl, rfl, trivial⟩ ?_
      refine sRet ?_
      exact done2 Tryd.results31 (rv_cellA ty46 rfl (List.Mem.tail _ (List.Mem.head _)) rfl) (rv_tmp rfl) (sqrt2_post (sqrt2_c hc15 hc41))
    · skip
      have hS0 := sqrt2_d hc15 hc41
      obtain ⟨n0, hn0⟩ : ∃ n : Fq, n = (sqrtF (norm2 x)).1 := ⟨_, rfl⟩
      rw [← hn0] at hS0 ⊢
      refine sSkip ?_
      refine sSeq ?_
      refine W.region ?_
      refine OpsW.det (det_call en19 rfl (fun w hb ho => Cu.Of_ok (n := 2) (by decide) ho.blocks)) rfl ?_
      refine OpsW.det (det_call en67 rfl (fun w hb ho => Cu.Inv_ok ho.blocks)) rfl ?_
      obtain ⟨h0, hh0⟩ : ∃ h : Fq, h = inv (Zp.of 2) := ⟨_, rfl⟩
      rw [← hh0] at hS0 ⊢
      refine OpsW.fresh (fr_alloc z29) rfl fun b10 => ?_
      refine OpsW.store sz29 rfl rfl rfl rfl rfl (Upd.here) rfl ?_
      refine sNext ?_
      refine W.keep (F' := [(10, _), (8, _), (2, _), (1, _)]) ⟨rfl, rfl, rfl, rfl, trivial⟩ ?_
      refine sSeq ?_
      refine sSeq ?_
      refine W.region ?_
      refine OpsW.det (det_move rfl) rfl ?_
      refine sNext ?_
      refine sBlock ?_
      refine sLoop (σ := Nat × Fq) (fun s => [(45, .int .i64 (s.1 : Nat)), (10, .pointer (some ⟨b10, 0, none⟩)), (8, .pointer (some ⟨b8, 0, none⟩)), (2, .pointer (some ⟨b2, 0, none⟩)), (1, .pointer (some ⟨b1, 0, none⟩))]) (fun s => [(b10, blk (Cu.cellsF h0) 29), (b8, blk (Cu.cellsF s.2) 29), (b2, blk (cellsF 0) 46), (b1, blk (cellsF x) 46)]) (fun s => s.1 ≤ 2 ∧ sqrt2 x = s2from x h0 (2 - s.1) s.2) (fun s => 2 - s.1) (0, n0) ⟨Nat.zero_le _, hS0⟩ ⟨rfl, rfl, rfl, rfl, rfl, trivial⟩ (List.Sublist.refl _) ?_
      rintro ⟨i, n⟩ ⟨hi, hS⟩
      change i ≤ 2 at hi
      change sqrt2 x = s2from x h0 (2 - i) n at hS
      refine W.norm (F' := [(45, .int .i64 (i : Nat)), (10, .pointer (some ⟨b10, 0, none⟩)), (8, .pointer (some ⟨b8, 0, none⟩)), (2, .pointer (some ⟨b2, 0, none⟩)), (1, .pointer (some ⟨b1, 0, none⟩))]) (H' := [(b10, blk (Cu.cellsF h0) 29), (b8, blk (Cu.cellsF n) 29), (b2, blk (cellsF 0) 46), (b1, blk (cellsF x) 46)]) rfl rfl ?_
      refine sSeq ?_
      refine W.region ?_
      refine OpsW.det ((det_lss (a := ((i : Nat) : Int)) (b := 2) rfl rfl)) rfl ?_
      refine sNext ?_
      refine sSeq ?_
      refine W.cond rfl (fun hc46 => ?_) (fun hc46 => ?_)
      · skip
        have hi2 : i < 2 := by have h := hc46; simp only [decide_eq_true_eq] at h; omega
        refine sSkip ?_
        refine sSeq ?_
        refine sBlock ?_
        refine sSeq ?_
        refine sSeq ?_
        refine W.draw mixed 11 [[], [0], [], [0, 1, 2], [], [0, 1, 2, 3, 4], [0, 1, 2, 3, 4, 5], [0, 1, 2, 3, 4, 5, 6], [0, 1, 2, 3, 4, 5, 6, 7], [0, 1, 2, 3, 4, 5, 6, 7], [], [0, 1, 2, 3, 4, 5, 6, 7, 8, 10], [0, 1, 2, 3, 4, 5, 6, 7, 8, 9, 10, 11]] (cl_lt (by decide)) ?_
        refine HeadR.start (cl_lt (by decide)) ?_
        refine HeadR.det rfl (fun β hβ => (det_fieldAddr fl46_0 rfl)) ?_
        refine HeadR.det rfl (fun β hβ => (det_loadA ty29 rfl (List.Mem.tail _ (List.Mem.tail _ (List.Mem.tail _ (List.Mem.head _)))) rfl)) ?_
        refine HeadR.det rfl (fun β hβ => (det_loadA ty29 rfl (List.Mem.tail _ (List.Mem.head _)) rfl)) ?_
        refine HeadR.det rfl (fun β hβ => (det_call en18 rfl (fun w hb ho => Cu.Add_ok ho.blocks))) ?_
        refine HeadR.det rfl (fun β hβ => (det_loadA ty29 rfl (List.Mem.head _) rfl)) ?_
        refine HeadR.det rfl (fun β hβ => (det_call en17 rfl (fun w hb ho => Cu.Mul_ok ho.blocks))) ?_
        refine HeadR.det rfl (fun β hβ => (det_call en21 rfl (fun w hb ho => Cu.Sqrt_ok ho.blocks))) ?_
        refine HeadR.det rfl (fun β hβ => (det_move rfl)) ?_
        refine HeadR.det rfl (fun β hβ => (det_extract rfl rfl)) ?_
        refine HeadR.flt rfl (fun _ _ _ _ hs => flt_extract hs rfl rfl) ?_
        refine HeadR.fresh rfl (fun β hβ => (fr_alloc z29).new) ?_
        refine HeadR.done ⟨by kernel_rfl, fun β hβ => ?_⟩
        refine OpsW.norm (F' := [(48, _), (49, _), (50, _), (51, _), (52, _), (53, _), (54, _), (47, _), (55, _), (56, _), (11, .pointer (some ⟨(β 11).1, 0, none⟩)), (46, _), (45, _), (10, _), (8, _), (2, _), (1, _)]) (H' := [(_, _), (_, _), (_, _), (_, _), (_, _)]) rfl rfl ?_
        generalize (β 11).1 = b11
        refine OpsW.store sz29 rfl rfl rfl rfl rfl (Upd.here) rfl ?_
        refine OpsW.det (det_assign rfl) rfl ?_
        refine sNext ?_
        refine W.keep (F' := [(12, _), (11, _), (45, _), (10, _), (8, _), (2, _), (1, _)]) ⟨rfl, rfl, rfl, rfl, rfl, rfl, rfl, trivial⟩ ?_
        refine sSeq ?_
        rcases hb : (sqrtF ((x.a + n) * h0)).2 with _ | _
        · skip
          refine W.region ?_
          refine OpsW.det (det_move rfl) rfl ?_
          refine OpsW.det (det_move rfl) rfl ?_
          refine OpsW.guard_no rfl rfl rfl ?_
          refine OpsW.guard_no rfl rfl rfl ?_
          refine OpsW.guard_no rfl rfl rfl ?_
          refine OpsW.det (det_pick rfl rfl) rfl ?_
          refine sNext ?_
          refine W.keep (F' := [(62, _), (11, _), (45, _), (10, _), (8, _), (2, _), (1, _)]) ⟨rfl, rfl, rfl, rfl, rfl, rfl, rfl, trivial⟩ ?_
          refine W.cond_false rfl ?_
          refine sSkip ?_
          refine W.region ?_
          refine OpsW.det (det_loadA ty29 rfl (List.Mem.tail _ (List.Mem.tail _ (List.Mem.head _))) rfl) rfl ?_
          refine OpsW.det (det_call en23 rfl (fun w hb ho => Cu.Neg_ok ho.blocks)) rfl ?_
          refine OpsW.store sz29 rfl rfl rfl rfl rfl (Upd.there (Upd.there (Upd.here))) rfl ?_
          refine sLast ?_
          refine bNext ?_
          refine W.keep (F' := [(45, _), (10, _), (8, _), (2, _), (1, _)]) ⟨rfl, rfl, rfl, rfl, rfl, trivial⟩ ?_
          refine W.region ?_
          refine OpsW.det (det_addN (b := 1) rfl rfl (by omega)) rfl ?_
          refine OpsW.det (det_move rfl) rfl ?_
          refine sLast ?_
          exact rEnd (i + 1, 0 - n) ⟨hi2, s2_no hi2 hS hb⟩ ⟨rfl, rfl, rfl, rfl, rfl, trivial⟩ (List.Sublist.cons _ (List.Sublist.refl _)) (by omega)
        · skip
          refine W.region ?_
          refine OpsW.det (det_move rfl) rfl ?_
          refine OpsW.det (det_move rfl) rfl ?_
          refine OpsW.guard_yes rfl rfl ?_
          refine OpsW.det (det_loadA ty29 rfl (List.Mem.head _) rfl) rfl ?_
          refine OpsW.guard_yes rfl rfl ?_
          refine OpsW.det (det_call en65 rfl (fun w hb ho => Cu.Zero_ok ho.blocks)) rfl ?_
          refine OpsW.guard_yes rfl rfl ?_
          refine OpsW.det (det_not rfl) rfl ?_
          refine OpsW.det (det_pick rfl rfl) rfl ?_
          refine sNext ?_
          refine W.keep (F' := [(62, _), (11, _), (45, _), (10, _), (8, _), (2, _), (1, _)]) ⟨rfl, rfl, rfl, rfl, rfl, rfl, rfl, trivial⟩ ?_
          refine W.cond rfl (fun hc62 => ?_) (fun hc62 => ?_)
          · skip
            refine sSeq ?_
            refine W.draw mixed 9 [[], [], [1], [], [1, 2, 3], [], [1, 2, 3, 4, 5], [1, 2, 3, 4, 5, 6], [0, 1, 2, 3, 4, 5, 6, 7], [0, 1, 2, 3, 4, 5, 6, 7, 8], [0, 1, 2, 3, 4, 5, 6, 7, 8, 9]] (cl_lt (by decide)) ?_
            refine HeadR.start (cl_lt (by decide)) ?_
            refine HeadR.det rfl (fun β hβ => (det_loadA ty29 rfl (List.Mem.head _) rfl)) ?_
            refine HeadR.det rfl (fun β hβ => (det_fieldAddr fl46_1 rfl)) ?_
            refine HeadR.det rfl (fun β hβ => (det_loadA ty29 rfl (List.Mem.tail _ (List.Mem.tail _ (List.Mem.tail _ (List.Mem.tail _ (List.Mem.head _))))) rfl)) ?_
            refine HeadR.det rfl (fun β hβ => (det_loadA ty29 rfl (List.Mem.tail _ (List.Mem.head _)) rfl)) ?_
            refine HeadR.det rfl (fun β hβ => (det_call en17 rfl (fun w hb ho => Cu.Mul_ok ho.blocks))) ?_
            refine HeadR.det rfl (fun β hβ => (det_loadA ty29 rfl (List.Mem.head _) rfl)) ?_
            refine HeadR.det rfl (fun β hβ => (det_call en67 rfl (fun w hb ho => Cu.Inv_ok ho.blocks))) ?_
            refine HeadR.det rfl (fun β hβ => (det_call en17 rfl (fun w hb ho => Cu.Mul_ok ho.blocks))) ?_
            refine HeadR.det rfl (fun β hβ => (det_build rfl bld46)) ?_
            refine HeadR.done ⟨by kernel_rfl, fun β hβ => ?_⟩
            refine OpsW.norm (F' := [(63, _), (64, _), (65, _), (66, _), (67, _), (68, _), (69, _), (70, _), (71, _), (62, _), (11, _), (45, _), (10, _), (8, _), (2, _), (1, _)]) (H' := [(_, _), (_, _), (_, _), (_, _), (_, _)]) rfl rfl ?_
            refine OpsW.storeW46 rfl rfl (Upd.there (Upd.there (Upd.there (Upd.here)))) ?_
            refine OpsW.det (det_assign rfl) rfl ?_
            refine sNext ?_
            refine W.keep (F' := [(3, _), (2, _)]) ⟨rfl, rfl, trivial⟩ ?_
            refine sRet ?_
            refine retBlk ?_
            refine retLoop ?_
            refine retBlk ?_
            exact done2 Tryd.results31 (rv_cellA ty46 rfl (List.Mem.tail _ (List.Mem.tail _ (List.Mem.tail _ (List.Mem.head _)))) rfl) (rv_tmp rfl) (sqrt2_post (s2_hit hi2 hS hb hc62))
          · skip
            refine sSkip ?_
            refine W.region ?_
            refine OpsW.det (det_loadA ty29 rfl (List.Mem.tail _ (List.Mem.tail _ (List.Mem.head _))) rfl) rfl ?_
            refine OpsW.det (det_call en23 rfl (fun w hb ho => Cu.Neg_ok ho.blocks)) rfl ?_
            refine OpsW.store sz29 rfl rfl rfl rfl rfl (Upd.there (Upd.there (Upd.here))) rfl ?_
            refine sLast ?_
            refine bNext ?_
            refine W.keep (F' := [(45, _), (10, _), (8, _), (2, _), (1, _)]) ⟨rfl, rfl, rfl, rfl, rfl, trivial⟩ ?_
            refine W.region ?_
            refine OpsW.det (det_addN (b := 1) rfl rfl (by omega)) rfl ?_
            refine OpsW.det (det_move rfl) rfl ?_
            refine sLast ?_
            exact rEnd (i + 1, 0 - n) ⟨hi2, s2_zero hi2 hS hc62⟩ ⟨rfl, rfl, rfl, rfl, rfl, trivial⟩ (List.Sublist.cons _ (List.Sublist.refl _)) (by omega)
      · skip
        have hge : ¬ i < 2 := by have h := hc46; simp only [decide_eq_false_iff_not] at h; omega
        refine sExit ?_
        refine xLoop ?_
        refine xHere ?_
        refine W.keep (F' := [(2, _)]) ⟨rfl, trivial⟩ ?_
        refine sSeq ?_
        refine W.region ?_
        refine OpsW.det (det_zero bz46) rfl ?_
        refine OpsW.storeW46 rfl rfl (Upd.there (Upd.there (Upd.here))) ?_
        refine OpsW.det (det_assign rfl) rfl ?_
        refine sNext ?_
        refine W.keep (F' := [(3, _), (2, _)]) ⟨rfl, rfl, trivial⟩ ?_
        refine sRet ?_
        exact done2 Tryd.results31 (rv_cellA ty46 rfl (List.Mem.tail _ (List.Mem.tail _ (List.Mem.head _))) rfl) (rv_tmp rfl) (sqrt2_post (s2_end hi hge hS))

end Go.Cw

/- The second group's points: what Neg, On, Add compute: the walks. Conditions: none. -/
namespace Go.Cw
open Go Go.Vm Go.RowKit Go.Proofs Go.Cu
attribute [local irreducible] W OpsW Det Fresh New Writes Vm.Pure Makes Changes ExternTo BuildTo ZeroTo FieldTo IndexTo BinTo SliceTo Vm.Enters
set_option linter.unusedVariables false
set_option linter.unusedSimpArgs false
variable {T : Nat → TypeId × Nat × Nat}
def inv (x : Fq2) : Fq2 := inv2 x
def four : Fq2 := small 4 4

def pneg (p : Pt) : Pt := if p = (0, 0) then p else (p.1, 0 - p.2)
def onB (p : Pt) : Bool := decide (p = (0, 0)) || decide (p.2 * p.2 = p.1 * p.1 * p.1 + four)
def tojac (p : Pt) : Jac := if p = (0, 0) then (0, 0, 0) else (p.1, p.2, small 1 0)
def jdbl (p : Jac) : Jac :=
  if p.2.2 = 0 then (0, 0, 0) else if p.2.1 = 0 then (0, 0, 0) else
    let a := p.1 * p.1
    let b := p.2.1 * p.2.1
    let c := b * b
    let d0 := (p.1 + b) * (p.1 + b) - a - c
    let d := d0 + d0
    let e := a + a + a
    let f := e * e - d - d
    let c4 := (c + c) + (c + c)
    (f, e * (d - f) - c4 - c4, p.2.1 * p.2.2 + p.2.1 * p.2.2)
def jaddH (p : Jac) (q : Pt) : Fq2 := q.1 * (p.2.2 * p.2.2) - p.1
def jaddR (p : Jac) (q : Pt) : Fq2 := q.2 * p.2.2 * (p.2.2 * p.2.2) - p.2.1
def jaddN (p : Jac) (q : Pt) : Jac :=
  let zz := p.2.2 * p.2.2
  let h := jaddH p q
  let r := jaddR p q + jaddR p q
  let hh := h * h
  let i := (hh + hh) + (hh + hh)
  let j := h * i
  let v := p.1 * i
  let x := r * r - j - v - v
  let yj := p.2.1 * j
  (x, r * (v - x) - yj - yj, (p.2.2 + h) * (p.2.2 + h) - zz - hh)
def jadd (p : Jac) (q : Pt) : Jac :=
  if q = (0, 0) then p else if p.2.2 = 0 then tojac q else if jaddH p q = 0 then (if jaddR p q = 0 then jdbl p else (0, 0, 0)) else jaddN p q
def point (p : Jac) : Pt := if p.2.2 = 0 then (0, 0) else
  let i := inv p.2.2
  let i2 := i * i
  (p.1 * i2, p.2.1 * i2 * i)
def padd (p q : Pt) : Pt := point (jadd (tojac p) q)
theorem pneg_yes {p : Pt} (h : decide (p = (0, 0)) = true) : pneg p = p := if_pos (dt h)
theorem pneg_no {p : Pt} (h : decide (p = (0, 0)) = false) : pneg p = (p.1, 0 - p.2) := if_neg (df h)
theorem tojac_yes {p : Pt} (h : decide (p = (0, 0)) = true) : tojac p = (0, 0, 0) := if_pos (dt h)
theorem tojac_no {p : Pt} (h : decide (p = (0, 0)) = false) : tojac p = (p.1, p.2, small 1 0) := if_neg (df h)
theorem point_yes {p : Jac} (h : decide (p.2.2 = 0) = true) : point p = (0, 0) := if_pos (dt h)
theorem point_no {p : Jac} (h : decide (p.2.2 = 0) = false) : point p = (p.1 * (inv p.2.2 * inv p.2.2), p.2.1 * (inv p.2.2 * inv p.2.2) * inv p.2.2) := if_neg (df h)
theorem jdbl_z {p : Jac} (h : decide (p.2.2 = 0) = true) : jdbl p = (0, 0, 0) := if_pos (dt h)
theorem jdbl_y {p : Jac} (h : decide (p.2.2 = 0) = false) (h2 : decide (p.2.1 = 0) = true) : jdbl p = (0, 0, 0) := (if_neg (df h)).trans (if_pos (dt h2))
theorem jdbl_no {p : Jac} (h : decide (p.2.2 = 0) = false) (h2 : decide (p.2.1 = 0) = false) : jdbl p = (
    let a := p.1 * p.1
    let b := p.2.1 * p.2.1
    let c := b * b
    let d0 := (p.1 + b) * (p.1 + b) - a - c
    let d := d0 + d0
    let e := a + a + a
    let f := e * e - d - d
    let c4 := (c + c) + (c + c)
    (f, e * (d - f) - c4 - c4, p.2.1 * p.2.2 + p.2.1 * p.2.2)) := (if_neg (df h)).trans (if_neg (df h2))
theorem jadd_q {p : Jac} {q : Pt} (h : decide (q = (0, 0)) = true) : jadd p q = p := if_pos (dt h)
theorem jadd_p {p : Jac} {q : Pt} (h : decide (q = (0, 0)) = false) (h2 : decide (p.2.2 = 0) = true) : jadd p q = tojac q := (if_neg (df h)).trans (if_pos (dt h2))
theorem jadd_d {p : Jac} {q : Pt} (h : decide (q = (0, 0)) = false) (h2 : decide (p.2.2 = 0) = false) (h3 : decide (jaddH p q = 0) = true) (h4 : decide (jaddR p q = 0) = true) : jadd p q = jdbl p :=
  (if_neg (df h)).trans ((if_neg (df h2)).trans ((if_pos (dt h3)).trans (if_pos (dt h4))))
theorem jadd_o {p : Jac} {q : Pt} (h : decide (q = (0, 0)) = false) (h2 : decide (p.2.2 = 0) = false) (h3 : decide (jaddH p q = 0) = true) (h4 : decide (jaddR p q = 0) = false) : jadd p q = (0, 0, 0) :=
  (if_neg (df h)).trans ((if_neg (df h2)).trans ((if_pos (dt h3)).trans (if_neg (df h4))))
theorem jadd_n {p : Jac} {q : Pt} (h : decide (q = (0, 0)) = false) (h2 : decide (p.2.2 = 0) = false) (h3 : decide (jaddH p q = 0) = false) : jadd p q = jaddN p q :=
  (if_neg (df h)).trans ((if_neg (df h2)).trans (if_neg (df h3)))

theorem bld48 {x y : Fq2} : BuildTo Tryd.prog 48 [(0, encF x), (1, encF y)] (encP (x, y)) := BuildTo.of fun _ => by kernel_rfl
theorem bld112 {x y z : Fq2} : BuildTo Tryd.prog 112 [(0, encF x), (1, encF y), (2, encF z)] (encJ (x, y, z)) := BuildTo.of fun _ => by kernel_rfl
theorem bz48 : ZeroTo Tryd.prog 48 (encP (0, 0)) := ZeroTo.of fun _ => by kernel_rfl
theorem bz112 : ZeroTo Tryd.prog 112 (encJ (0, 0, 0)) := ZeroTo.of fun _ => by kernel_rfl
theorem en97 : Vm.Enters Tryd.prog 97 := Vm.Enters.of fun _ _ => by kernel_rfl
theorem en28 : Vm.Enters Tryd.prog 28 := Vm.Enters.of fun _ _ => by kernel_rfl
theorem en96 : Vm.Enters Tryd.prog 96 := Vm.Enters.of fun _ _ => by kernel_rfl
theorem en33 : Vm.Enters Tryd.prog 33 := Vm.Enters.of fun _ _ => by kernel_rfl
theorem en26 : Vm.Enters Tryd.prog 26 := Vm.Enters.of fun _ _ => by kernel_rfl
theorem en27 : Vm.Enters Tryd.prog 27 := Vm.Enters.of fun _ _ => by kernel_rfl
theorem en72 : Vm.Enters Tryd.prog 72 := Vm.Enters.of fun _ _ => by kernel_rfl
theorem en94 : Vm.Enters Tryd.prog 94 := Vm.Enters.of fun _ _ => by kernel_rfl
theorem en86 : Vm.Enters Tryd.prog 86 := Vm.Enters.of fun _ _ => by kernel_rfl
theorem en95 : Vm.Enters Tryd.prog 95 := Vm.Enters.of fun _ _ => by kernel_rfl
theorem en99 : Vm.Enters Tryd.prog 99 := Vm.Enters.of fun _ _ => by kernel_rfl
theorem fl48_0 : TyF Tryd.prog 48 0 0 12 := ⟨⟨46, by kernel_rfl, by kernel_rfl⟩, by decide⟩
theorem fl48_1 : TyF Tryd.prog 48 1 12 12 := ⟨⟨46, by kernel_rfl, by kernel_rfl⟩, by decide⟩
theorem fl112_0 : TyF Tryd.prog 112 0 0 12 := ⟨⟨46, by kernel_rfl, by kernel_rfl⟩, by decide⟩
theorem fl112_1 : TyF Tryd.prog 112 1 12 12 := ⟨⟨46, by kernel_rfl, by kernel_rfl⟩, by decide⟩
theorem fl112_2 : TyF Tryd.prog 112 2 24 12 := ⟨⟨46, by kernel_rfl, by kernel_rfl⟩, by decide⟩
theorem sz48 : sizeIn Tryd.prog 48 = some 24 := by kernel_rfl
theorem sz112 : sizeIn Tryd.prog 112 = some 36 := by kernel_rfl
theorem ty48 : TyA Tryd.prog 48 24 := ⟨by kernel_rfl, by kernel_rfl⟩
theorem ty112 : TyA Tryd.prog 112 36 := ⟨by kernel_rfl, by kernel_rfl⟩
theorem PNeg_ok {p : Pt} {w : World} (hG : Blocks (GH T) w)  : Vm.Pure Tryd.prog 46 #[encP p] w (encP (pneg p)) := by
  refine pure_of_W (n := 13) (args := [encP p]) Tryd.func46 rfl Tryd.ntmps46 (Nat.le_of_ble_eq_true rfl) hG ?_
  refine sStart ?_
  refine sSeq ?_
  refine W.region ?_
  refine OpsW.fresh (fr_boxW48 rfl) rfl fun b1 => ?_
  refine OpsW.fresh (fr_alloc z48r) rfl fun b2 => ?_
  refine sNext ?_
  refine W.keep (F' := [(2, _), (1, _)]) ⟨rfl, rfl, trivial⟩ ?_
  refine sSeq ?_
  refine sSeq ?_
  refine W.region ?_
  refine OpsW.det (det_loadW48 rfl (List.Mem.tail _ (List.Mem.head _))) rfl ?_
  refine OpsW.det (det_zero bz48) rfl ?_
  refine OpsW.det (det_eql48 rfl rfl) rfl ?_
  refine sNext ?_
  refine W.keep (F' := [(5, _), (2, _), (1, _)]) ⟨rfl, rfl, rfl, trivial⟩ ?_
  refine W.cond rfl (fun hc5 => ?_) (fun hc5 => ?_)
  · skip
    refine sSeq ?_
    refine W.region ?_
    refine OpsW.det (det_loadW48 rfl (List.Mem.tail _ (List.Mem.head _))) rfl ?_
    refine OpsW.storeW48 rfl rfl (Upd.here) ?_
    refine sNext ?_
    refine W.keep (F' := [(2, _)]) ⟨rfl, trivial⟩ ?_
    refine sRet ?_
    exact done1 Tryd.results46 (rv_cellA ty48 rfl (List.Mem.head _) rfl) (congrArg encP (pneg_yes hc5).symm)
  · skip
    refine sSkip ?_
    refine sSeq ?_
    refine W.draw mixed 6 [[], [0], [], [2], [2, 3], [0, 1, 2, 3, 4], [0, 1, 2, 3, 4, 5]] (cl_lt (by decide)) ?_
    refine HeadR.start (cl_lt (by decide)) ?_
    refine HeadR.det rfl (fun β hβ => (det_fieldAddr fl48_0 rfl)) ?_
    refine HeadR.det rfl (fun β hβ => (det_loadA ty46 rfl (List.Mem.tail _ (List.Mem.head _)) rfl)) ?_
    refine HeadR.det rfl (fun β hβ => (det_fieldAddr fl48_1 rfl)) ?_
    refine HeadR.det rfl (fun β hβ => (det_loadA ty46 rfl (List.Mem.tail _ (List.Mem.head _)) rfl)) ?_
    refine HeadR.det rfl (fun β hβ => (det_call en33 rfl (fun w hb ho => Neg_ok ho.blocks))) ?_
    refine HeadR.det rfl (fun β hβ => (det_build rfl bld48)) ?_
    refine HeadR.done ⟨by kernel_rfl, fun β hβ => ?_⟩
    refine OpsW.norm (F' := [(7, _), (8, _), (9, _), (10, _), (11, _), (12, _), (5, _), (2, _), (1, _)]) (H' := [(_, _), (_, _)]) rfl rfl ?_
    refine OpsW.storeW48 rfl rfl (Upd.here) ?_
    refine sNext ?_
    refine W.keep (F' := [(2, _)]) ⟨rfl, trivial⟩ ?_
    refine sRet ?_
    exact done1 Tryd.results46 (rv_cellA ty48 rfl (List.Mem.head _) rfl) (congrArg encP (pneg_no hc5).symm)
theorem POn_ok {p : Pt} {w : World} (hG : Blocks (GH T) w)  : Vm.Pure Tryd.prog 39 #[encP p] w (.bool (onB p)) := by
  refine pure_of_W (n := 20) (args := [encP p]) Tryd.func39 rfl Tryd.ntmps39 (Nat.le_of_ble_eq_true rfl) hG ?_
  refine sStart ?_
  refine sSeq ?_
  refine W.region ?_
  refine OpsW.fresh (fr_boxW48 rfl) rfl fun b1 => ?_
  refine OpsW.det (det_assign rfl) rfl ?_
  refine sNext ?_
  refine W.keep (F' := [(1, _)]) ⟨rfl, trivial⟩ ?_
  refine sSeq ?_
  cases hp : decide (p = (0, 0))
  · skip
    refine W.draw mixed 18 [[], [], [0, 1], [0, 1, 2], [0, 1, 2, 3], [0, 1, 2, 3, 4], [0, 1, 2, 3, 4, 5], [0, 1, 2, 3], [0, 1, 2, 3, 7], [0, 1, 2, 3, 4, 5, 6, 7, 8], [0, 1, 2, 3], [0, 1, 2, 3, 10], [0, 1, 2, 3, 4, 5, 6, 7, 8, 9, 10, 11], [0, 1, 2, 3, 4, 5, 6, 7, 8, 9, 10, 11, 12], [0, 1, 2, 3, 4, 5, 6, 7, 8, 9, 10, 11, 12, 13], [0, 1, 2, 3, 4, 5, 6, 7, 8, 9, 10, 11, 12, 13, 14], [0, 1, 2, 3, 4, 5, 6, 7, 8, 9, 10, 11, 12, 13, 14, 15], [0, 1, 2, 3, 4, 5, 6, 7, 8, 9, 10, 11, 12, 13, 14, 15, 16]] (cl_lt (by decide)) ?_
    refine HeadR.start (cl_lt (by decide)) ?_
    refine HeadR.det rfl (fun β hβ => (det_loadW48 rfl (List.Mem.head _))) ?_
    refine HeadR.det rfl (fun β hβ => (det_zero bz48)) ?_
    refine HeadR.det rfl (fun β hβ => ((det_eql48 (a := p) rfl rfl).to (congrArg Value.bool hp))) ?_
    refine HeadR.det rfl (fun β hβ => (det_move rfl)) ?_
    refine HeadR.yes rfl rfl (fun _ _ => rfl) (fun β hβ => (det_fieldAddr fl48_1 rfl)) ?_
    refine HeadR.yes rfl rfl (fun _ _ => rfl) (fun β hβ => (det_loadA ty46 rfl (List.Mem.head _) rfl)) ?_
    refine HeadR.yes rfl rfl (fun _ _ => rfl) (fun β hβ => (det_call en26 rfl (fun w hb ho => Square_ok ho.blocks))) ?_
    refine HeadR.yes rfl rfl (fun _ _ => rfl) (fun β hβ => (det_fieldAddr fl48_0 rfl)) ?_
    refine HeadR.yes rfl rfl (fun _ _ => rfl) (fun β hβ => (det_loadA ty46 rfl (List.Mem.head _) rfl)) ?_
    refine HeadR.yes rfl rfl (fun _ _ => rfl) (fun β hβ => (det_call en26 rfl (fun w hb ho => Square_ok ho.blocks))) ?_
    refine HeadR.yes rfl rfl (fun _ _ => rfl) (fun β hβ => (det_fieldAddr fl48_0 rfl)) ?_
    refine HeadR.yes rfl rfl (fun _ _ => rfl) (fun β hβ => (det_loadA ty46 rfl (List.Mem.head _) rfl)) ?_
    refine HeadR.yes rfl rfl (fun _ _ => rfl) (fun β hβ => (det_call en27 rfl (fun w hb ho => Mul_ok ho.blocks))) ?_
    refine HeadR.yes rfl rfl (fun _ _ => rfl) (fun β hβ => (det_call en72 rfl (fun w hb ho => four_ok ho.blocks))) ?_
    refine HeadR.yes rfl rfl (fun _ _ => rfl) (fun β hβ => (det_call en28 rfl (fun w hb ho => Add_ok ho.blocks))) ?_
    refine HeadR.yes rfl rfl (fun _ _ => rfl) (fun β hβ => (det_eql46 rfl rfl)) ?_
    refine HeadR.det rfl (fun β hβ => (det_pick rfl rfl)) ?_
    refine HeadR.det rfl (fun β hβ => (det_assign rfl)) ?_
    refine HeadR.done ⟨by kernel_rfl, fun β hβ => ?_⟩
    refine OpsW.norm (F' := [(3, _), (4, _), (5, _), (6, _), (7, _), (8, _), (9, _), (10, _), (11, _), (12, _), (13, _), (14, _), (15, _), (16, _), (17, _), (18, _), (19, _), (2, _), (1, _)]) (H' := [(_, _)]) rfl rfl ?_
    refine sNext ?_
    refine W.keep (F' := [(2, _)]) ⟨rfl, trivial⟩ ?_
    refine sRet ?_
    exact done1 Tryd.results39 (rv_tmp rfl) (by rw [onB, hp]; rfl)
  · skip
    refine W.draw mixed 18 [[], [], [0, 1], [0, 1, 2], [0, 1, 2, 3], [0, 1, 2, 3, 4], [0, 1, 2, 3, 4, 5], [0, 1, 2, 3], [0, 1, 2, 3, 7], [0, 1, 2, 3, 4, 5, 6, 7, 8], [0, 1, 2, 3], [0, 1, 2, 3, 10], [0, 1, 2, 3, 4, 5, 6, 7, 8, 9, 10, 11], [0, 1, 2, 3, 4, 5, 6, 7, 8, 9, 10, 11, 12], [0, 1, 2, 3, 4, 5, 6, 7, 8, 9, 10, 11, 12, 13], [0, 1, 2, 3, 4, 5, 6, 7, 8, 9, 10, 11, 12, 13, 14], [0, 1, 2, 3, 4, 5, 6, 7, 8, 9, 10, 11, 12, 13, 14, 15], [0, 1, 2, 3, 4, 5, 6, 7, 8, 9, 10, 11, 12, 13, 14, 15, 16]] (cl_lt (by decide)) ?_
    refine HeadR.start (cl_lt (by decide)) ?_
    refine HeadR.det rfl (fun β hβ => (det_loadW48 rfl (List.Mem.head _))) ?_
    refine HeadR.det rfl (fun β hβ => (det_zero bz48)) ?_
    refine HeadR.det rfl (fun β hβ => ((det_eql48 (a := p) rfl rfl).to (congrArg Value.bool hp))) ?_
    refine HeadR.det rfl (fun β hβ => (det_move rfl)) ?_
    refine HeadR.no rfl rfl (fun _ _ => rfl) ?_
    refine HeadR.no rfl rfl (fun _ _ => rfl) ?_
    refine HeadR.no rfl rfl (fun _ _ => rfl) ?_
    refine HeadR.no rfl rfl (fun _ _ => rfl) ?_
    refine HeadR.no rfl rfl (fun _ _ => rfl) ?_
    refine HeadR.no rfl rfl (fun _ _ => rfl) ?_
    refine HeadR.no rfl rfl (fun _ _ => rfl) ?_
    refine HeadR.no rfl rfl (fun _ _ => rfl) ?_
    refine HeadR.no rfl rfl (fun _ _ => rfl) ?_
    refine HeadR.no rfl rfl (fun _ _ => rfl) ?_
    refine HeadR.no rfl rfl (fun _ _ => rfl) ?_
    refine HeadR.no rfl rfl (fun _ _ => rfl) ?_
    refine HeadR.det rfl (fun β hβ => (det_pick rfl rfl)) ?_
    refine HeadR.det rfl (fun β hβ => (det_assign rfl)) ?_
    refine HeadR.done ⟨by kernel_rfl, fun β hβ => ?_⟩
    refine OpsW.norm (F' := [(3, _), (4, _), (5, _), (6, _), (7, _), (8, _), (9, _), (10, _), (11, _), (12, _), (13, _), (14, _), (15, _), (16, _), (17, _), (18, _), (19, _), (2, _), (1, _)]) (H' := [(_, _)]) rfl rfl ?_
    refine sNext ?_
    refine W.keep (F' := [(2, _)]) ⟨rfl, trivial⟩ ?_
    refine sRet ?_
    exact done1 Tryd.results39 (rv_tmp rfl) (by rw [onB, hp]; rfl)
theorem tojac_ok {p : Pt} {w : World} (hG : Blocks (GH T) w)  : Vm.Pure Tryd.prog 96 #[encP p] w (encJ (tojac p)) := by
  refine pure_of_W (n := 13) (args := [encP p]) Tryd.func96 rfl Tryd.ntmps96 (Nat.le_of_ble_eq_true rfl) hG ?_
  refine sStart ?_
  refine sSeq ?_
  refine W.region ?_
  refine OpsW.fresh (fr_boxW48 rfl) rfl fun b1 => ?_
  refine OpsW.fresh (fr_alloc z112r) rfl fun b2 => ?_
  refine sNext ?_
  refine W.keep (F' := [(2, _), (1, _)]) ⟨rfl, rfl, trivial⟩ ?_
  refine sSeq ?_
  refine sSeq ?_
  refine W.region ?_
  refine OpsW.det (det_loadW48 rfl (List.Mem.tail _ (List.Mem.head _))) rfl ?_
  refine OpsW.det (det_zero bz48) rfl ?_
  refine OpsW.det (det_eql48 rfl rfl) rfl ?_
  refine sNext ?_
  refine W.keep (F' := [(5, _), (2, _), (1, _)]) ⟨rfl, rfl, rfl, trivial⟩ ?_
  refine W.cond rfl (fun hc5 => ?_) (fun hc5 => ?_)
  · skip
    refine sSeq ?_
    refine W.region ?_
    refine OpsW.det (det_zero bz112) rfl ?_
    refine OpsW.storeW112 rfl rfl (Upd.here) ?_
    refine sNext ?_
    refine W.keep (F' := [(2, _)]) ⟨rfl, trivial⟩ ?_
    refine sRet ?_
    exact done1 Tryd.results96 (rv_cellA ty112 rfl (List.Mem.head _) rfl) (congrArg encJ (tojac_yes hc5).symm)
  · skip
    refine sSkip ?_
    refine sSeq ?_
    refine W.draw mixed 6 [[], [0], [], [2], [], [0, 1, 2, 3, 4], [0, 1, 2, 3, 4, 5]] (cl_lt (by decide)) ?_
    refine HeadR.start (cl_lt (by decide)) ?_
    refine HeadR.det rfl (fun β hβ => (det_fieldAddr fl48_0 rfl)) ?_
    refine HeadR.det rfl (fun β hβ => (det_loadA ty46 rfl (List.Mem.tail _ (List.Mem.head _)) rfl)) ?_
    refine HeadR.det rfl (fun β hβ => (det_fieldAddr fl48_1 rfl)) ?_
    refine HeadR.det rfl (fun β hβ => (det_loadA ty46 rfl (List.Mem.tail _ (List.Mem.head _)) rfl)) ?_
    refine HeadR.det rfl (fun β hβ => (det_call en99 rfl (fun w hb ho => one_ok ho.blocks))) ?_
    refine HeadR.det rfl (fun β hβ => (det_build rfl bld112)) ?_
    refine HeadR.done ⟨by kernel_rfl, fun β hβ => ?_⟩
    refine OpsW.norm (F' := [(7, _), (8, _), (9, _), (10, _), (11, _), (12, _), (5, _), (2, _), (1, _)]) (H' := [(_, _), (_, _)]) rfl rfl ?_
    refine OpsW.storeW112 rfl rfl (Upd.here) ?_
    refine sNext ?_
    refine W.keep (F' := [(2, _)]) ⟨rfl, trivial⟩ ?_
    refine sRet ?_
    exact done1 Tryd.results96 (rv_cellA ty112 rfl (List.Mem.head _) rfl) (congrArg encJ (tojac_no hc5).symm)
theorem jdbl_ok {p : Jac} {w : World} (hG : Blocks (GH T) w)  : Vm.Pure Tryd.prog 86 #[encJ p] w (encJ (jdbl p)) := by
  refine pure_of_W (n := 75) (args := [encJ p]) Tryd.func86 rfl Tryd.ntmps86 (Nat.le_of_ble_eq_true rfl) hG ?_
  refine sStart ?_
  refine sSeq ?_
  refine W.region ?_
  refine OpsW.fresh (fr_boxW112 rfl) rfl fun b1 => ?_
  refine OpsW.fresh (fr_alloc z112r) rfl fun b2 => ?_
  refine sNext ?_
  refine W.keep (F' := [(2, _), (1, _)]) ⟨rfl, rfl, trivial⟩ ?_
  refine sSeq ?_
  refine sSeq ?_
  refine W.region ?_
  refine OpsW.det (det_fieldAddr fl112_2 rfl) rfl ?_
  refine OpsW.det (det_loadA ty46 rfl (List.Mem.tail _ (List.Mem.head _)) rfl) rfl ?_
  refine OpsW.test (det_call en94 rfl (fun w hb ho => Zero_ok ho.blocks)) rfl (fun hc12 => ?_) (fun hc12 => ?_)
  · skip
    refine OpsW.det (det_move rfl) rfl ?_
    refine OpsW.guard_no rfl rfl rfl ?_
    refine OpsW.guard_no rfl rfl rfl ?_
    refine OpsW.guard_no rfl rfl rfl ?_
    refine OpsW.det (det_pick rfl rfl) rfl ?_
    refine sNext ?_
    refine W.keep (F' := [(17, _), (2, _), (1, _)]) ⟨rfl, rfl, rfl, trivial⟩ ?_
    refine W.cond_true rfl ?_
    refine sSeq ?_
    refine W.region ?_
    refine OpsW.det (det_zero bz112) rfl ?_
    refine OpsW.storeW112 rfl rfl (Upd.here) ?_
    refine sNext ?_
    refine W.keep (F' := [(2, _)]) ⟨rfl, trivial⟩ ?_
    refine sRet ?_
    exact done1 Tryd.results86 (rv_cellA ty112 rfl (List.Mem.head _) rfl) (congrArg encJ (jdbl_z hc12).symm)
  · skip
    refine OpsW.det (det_move rfl) rfl ?_
    refine OpsW.guard_yes rfl rfl ?_
    refine OpsW.det (det_fieldAddr fl112_1 rfl) rfl ?_
    refine OpsW.guard_yes rfl rfl ?_
    refine OpsW.det (det_loadA ty46 rfl (List.Mem.tail _ (List.Mem.head _)) rfl) rfl ?_
    refine OpsW.guard_yes rfl rfl ?_
    refine OpsW.det (det_call en94 rfl (fun w hb ho => Zero_ok ho.blocks)) rfl ?_
    refine OpsW.det (det_pick rfl rfl) rfl ?_
    refine sNext ?_
    refine W.keep (F' := [(17, _), (2, _), (1, _)]) ⟨rfl, rfl, rfl, trivial⟩ ?_
    refine W.cond rfl (fun hc17 => ?_) (fun hc17 => ?_)
    · skip
      refine sSeq ?_
      refine W.region ?_
      refine OpsW.det (det_zero bz112) rfl ?_
      refine OpsW.storeW112 rfl rfl (Upd.here) ?_
      refine sNext ?_
      refine W.keep (F' := [(2, _)]) ⟨rfl, trivial⟩ ?_
      refine sRet ?_
      exact done1 Tryd.results86 (rv_cellA ty112 rfl (List.Mem.head _) rfl) (congrArg encJ (jdbl_y hc12 hc17).symm)
    · skip
      refine sSkip ?_
      refine sSeq ?_
      refine W.draw mixed 8 [[], [0], [0, 1], [], [3], [0, 1, 2, 3, 4], [], [], [0, 1, 2, 3, 4, 5, 6, 7], [0, 1, 2, 3, 4, 5, 6, 7, 8]] (cl_lt (by decide)) ?_
      refine HeadR.start (cl_lt (by decide)) ?_
      refine HeadR.det rfl (fun β hβ => (det_fieldAddr fl112_0 rfl)) ?_
      refine HeadR.det rfl (fun β hβ => (det_loadA ty46 rfl (List.Mem.tail _ (List.Mem.head _)) rfl)) ?_
      refine HeadR.det rfl (fun β hβ => (det_call en26 rfl (fun w hb ho => Square_ok ho.blocks))) ?_
      refine HeadR.det rfl (fun β hβ => (det_fieldAddr fl112_1 rfl)) ?_
      refine HeadR.det rfl (fun β hβ => (det_loadA ty46 rfl (List.Mem.tail _ (List.Mem.head _)) rfl)) ?_
      refine HeadR.det rfl (fun β hβ => (det_call en26 rfl (fun w hb ho => Square_ok ho.blocks))) ?_
      refine HeadR.fresh rfl (fun β hβ => (fr_alloc z46r).new) ?_
      refine HeadR.fresh rfl (fun β hβ => (fr_alloc z46r).new) ?_
      refine HeadR.done ⟨by kernel_rfl, fun β hβ => ?_⟩
      refine OpsW.norm (F' := [(19, _), (20, _), (21, _), (22, _), (23, _), (24, _), (3, .pointer (some ⟨(β 3).1, 0, none⟩)), (4, .pointer (some ⟨(β 4).1, 0, none⟩)), (17, _), (2, _), (1, _)]) (H' := [(_, _), (_, _), (_, _), (_, _)]) rfl rfl ?_
      generalize (β 3).1 = b3
      generalize (β 4).1 = b4
      refine OpsW.storeW46 rfl rfl (Upd.here) ?_
      refine OpsW.storeW46 rfl rfl (Upd.there (Upd.here)) ?_
      refine sNext ?_
      refine W.keep (F' := [(3, _), (4, _), (2, _), (1, _)]) ⟨rfl, rfl, rfl, rfl, trivial⟩ ?_
      refine sSeq ?_
      refine W.region ?_
      refine OpsW.det (det_loadW46 rfl (List.Mem.tail _ (List.Mem.head _))) rfl ?_
      refine OpsW.det (det_call en26 rfl (fun w hb ho => Square_ok ho.blocks)) rfl ?_
      refine OpsW.fresh (fr_alloc z46r) rfl fun b5 => ?_
      refine OpsW.storeW46 rfl rfl (Upd.here) ?_
      refine sNext ?_
      refine W.keep (F' := [(5, _), (3, _), (4, _), (2, _), (1, _)]) ⟨rfl, rfl, rfl, rfl, rfl, trivial⟩ ?_
      refine sSeq ?_
      refine W.draw mixed 10 [[], [0], [], [0, 1, 2], [0, 1, 2, 3], [], [0, 1, 2, 3, 4, 5], [], [0, 1, 2, 3, 4, 5, 6, 7], [], [0, 1, 2, 3, 4, 5, 6, 7, 8, 9]] (cl_lt (by decide)) ?_
      refine HeadR.start (cl_lt (by decide)) ?_
      refine HeadR.det rfl (fun β hβ => (det_fieldAddr fl112_0 rfl)) ?_
      refine HeadR.det rfl (fun β hβ => (det_loadA ty46 rfl (List.Mem.tail _ (List.Mem.tail _ (List.Mem.tail _ (List.Mem.tail _ (List.Mem.head _))))) rfl)) ?_
      refine HeadR.det rfl (fun β hβ => (det_loadW46 rfl (List.Mem.tail _ (List.Mem.tail _ (List.Mem.head _))))) ?_
      refine HeadR.det rfl (fun β hβ => (det_call en28 rfl (fun w hb ho => Add_ok ho.blocks))) ?_
      refine HeadR.det rfl (fun β hβ => (det_call en26 rfl (fun w hb ho => Square_ok ho.blocks))) ?_
      refine HeadR.det rfl (fun β hβ => (det_loadW46 rfl (List.Mem.tail _ (List.Mem.head _)))) ?_
      refine HeadR.det rfl (fun β hβ => (det_call en95 rfl (fun w hb ho => Sub_ok ho.blocks))) ?_
      refine HeadR.det rfl (fun β hβ => (det_loadW46 rfl (List.Mem.head _))) ?_
      refine HeadR.det rfl (fun β hβ => (det_call en95 rfl (fun w hb ho => Sub_ok ho.blocks))) ?_
      refine HeadR.fresh rfl (fun β hβ => (fr_alloc z46r).new) ?_
      refine HeadR.done ⟨by kernel_rfl, fun β hβ => ?_⟩
      refine OpsW.norm (F' := [(27, _), (28, _), (29, _), (30, _), (31, _), (32, _), (33, _), (34, _), (35, _), (6, .pointer (some ⟨(β 6).1, 0, none⟩)), (5, _), (3, _), (4, _), (2, _), (1, _)]) (H' := [(_, _), (_, _), (_, _), (_, _), (_, _), (_, _)]) rfl rfl ?_
      generalize (β 6).1 = b6
      refine OpsW.storeW46 rfl rfl (Upd.here) ?_
      refine sNext ?_
      refine W.keep (F' := [(6, _), (5, _), (3, _), (2, _), (1, _)]) ⟨rfl, rfl, rfl, rfl, rfl, trivial⟩ ?_
      refine sSeq ?_
      refine W.region ?_
      refine OpsW.det (det_loadW46 rfl (List.Mem.head _)) rfl ?_
      refine OpsW.det (det_loadW46 rfl (List.Mem.head _)) rfl ?_
      refine OpsW.det (det_call en28 rfl (fun w hb ho => Add_ok ho.blocks)) rfl ?_
      refine OpsW.storeW46 rfl rfl (Upd.here) ?_
      refine sNext ?_
      refine W.keep (F' := [(6, _), (5, _), (3, _), (2, _), (1, _)]) ⟨rfl, rfl, rfl, rfl, rfl, trivial⟩ ?_
      refine sSeq ?_
      refine W.draw mixed 6 [[], [], [0, 1], [], [0, 1, 2, 3], [], [0, 1, 2, 3, 4, 5]] (cl_lt (by decide)) ?_
      refine HeadR.start (cl_lt (by decide)) ?_
      refine HeadR.det rfl (fun β hβ => (det_loadW46 rfl (List.Mem.tail _ (List.Mem.tail _ (List.Mem.head _))))) ?_
      refine HeadR.det rfl (fun β hβ => (det_loadW46 rfl (List.Mem.tail _ (List.Mem.tail _ (List.Mem.head _))))) ?_
      refine HeadR.det rfl (fun β hβ => (det_call en28 rfl (fun w hb ho => Add_ok ho.blocks))) ?_
      refine HeadR.det rfl (fun β hβ => (det_loadW46 rfl (List.Mem.tail _ (List.Mem.tail _ (List.Mem.head _))))) ?_
      refine HeadR.det rfl (fun β hβ => (det_call en28 rfl (fun w hb ho => Add_ok ho.blocks))) ?_
      refine HeadR.fresh rfl (fun β hβ => (fr_alloc z46r).new) ?_
      refine HeadR.done ⟨by kernel_rfl, fun β hβ => ?_⟩
      refine OpsW.norm (F' := [(39, _), (40, _), (41, _), (42, _), (43, _), (7, .pointer (some ⟨(β 7).1, 0, none⟩)), (6, _), (5, _), (3, _), (2, _), (1, _)]) (H' := [(_, _), (_, _), (_, _), (_, _), (_, _), (_, _), (_, _)]) rfl rfl ?_
      generalize (β 7).1 = b7
      refine OpsW.storeW46 rfl rfl (Upd.here) ?_
      refine sNext ?_
      refine W.keep (F' := [(7, _), (6, _), (5, _), (2, _), (1, _)]) ⟨rfl, rfl, rfl, rfl, rfl, trivial⟩ ?_
      refine sSeq ?_
      refine W.draw mixed 7 [[], [0], [], [0, 1, 2], [], [0, 1, 2, 3, 4], [], [0, 1, 2, 3, 4, 5, 6]] (cl_lt (by decide)) ?_
      refine HeadR.start (cl_lt (by decide)) ?_
      refine HeadR.det rfl (fun β hβ => (det_loadW46 rfl (List.Mem.head _))) ?_
      refine HeadR.det rfl (fun β hβ => (det_call en26 rfl (fun w hb ho => Square_ok ho.blocks))) ?_
      refine HeadR.det rfl (fun β hβ => (det_loadW46 rfl (List.Mem.tail _ (List.Mem.head _)))) ?_
      refine HeadR.det rfl (fun β hβ => (det_call en95 rfl (fun w hb ho => Sub_ok ho.blocks))) ?_
      refine HeadR.det rfl (fun β hβ => (det_loadW46 rfl (List.Mem.tail _ (List.Mem.head _)))) ?_
      refine HeadR.det rfl (fun β hβ => (det_call en95 rfl (fun w hb ho => Sub_ok ho.blocks))) ?_
      refine HeadR.fresh rfl (fun β hβ => (fr_alloc z46r).new) ?_
      refine HeadR.done ⟨by kernel_rfl, fun β hβ => ?_⟩
      refine OpsW.norm (F' := [(44, _), (45, _), (46, _), (47, _), (48, _), (49, _), (8, .pointer (some ⟨(β 8).1, 0, none⟩)), (7, _), (6, _), (5, _), (2, _), (1, _)]) (H' := [(_, _), (_, _), (_, _), (_, _), (_, _), (_, _), (_, _), (_, _)]) rfl rfl ?_
      generalize (β 8).1 = b8
      refine OpsW.storeW46 rfl rfl (Upd.here) ?_
      refine sNext ?_
      refine W.keep (F' := [(8, _), (7, _), (6, _), (5, _), (2, _), (1, _)]) ⟨rfl, rfl, rfl, rfl, rfl, rfl, trivial⟩ ?_
      refine sSeq ?_
      refine W.region ?_
      refine OpsW.det (det_loadW46 rfl (List.Mem.tail _ (List.Mem.tail _ (List.Mem.tail _ (List.Mem.head _))))) rfl ?_
      refine OpsW.det (det_loadW46 rfl (List.Mem.tail _ (List.Mem.tail _ (List.Mem.tail _ (List.Mem.head _))))) rfl ?_
      refine OpsW.det (det_call en28 rfl (fun w hb ho => Add_ok ho.blocks)) rfl ?_
      refine OpsW.storeW46 rfl rfl (Upd.there (Upd.there (Upd.there (Upd.here)))) ?_
      refine sNext ?_
      refine W.keep (F' := [(8, _), (7, _), (6, _), (5, _), (2, _), (1, _)]) ⟨rfl, rfl, rfl, rfl, rfl, rfl, trivial⟩ ?_
      refine sSeq ?_
      refine W.region ?_
      refine OpsW.det (det_loadW46 rfl (List.Mem.tail _ (List.Mem.tail _ (List.Mem.tail _ (List.Mem.head _))))) rfl ?_
      refine OpsW.det (det_loadW46 rfl (List.Mem.tail _ (List.Mem.tail _ (List.Mem.tail _ (List.Mem.head _))))) rfl ?_
      refine OpsW.det (det_call en28 rfl (fun w hb ho => Add_ok ho.blocks)) rfl ?_
      refine OpsW.storeW46 rfl rfl (Upd.there (Upd.there (Upd.there (Upd.here)))) ?_
      refine sNext ?_
      refine W.keep (F' := [(8, _), (7, _), (6, _), (5, _), (2, _), (1, _)]) ⟨rfl, rfl, rfl, rfl, rfl, rfl, trivial⟩ ?_
      refine sSeq ?_
      refine W.region ?_
      refine OpsW.det (det_fieldAddr fl112_1 rfl) rfl ?_
      refine OpsW.det (det_loadA ty46 rfl (List.Mem.tail _ (List.Mem.tail _ (List.Mem.tail _ (List.Mem.tail _ (List.Mem.tail _ (List.Mem.tail _ (List.Mem.tail _ (List.Mem.head _)))))))) rfl) rfl ?_
      refine OpsW.det (det_fieldAddr fl112_2 rfl) rfl ?_
      refine OpsW.det (det_loadA ty46 rfl (List.Mem.tail _ (List.Mem.tail _ (List.Mem.tail _ (List.Mem.tail _ (List.Mem.tail _ (List.Mem.tail _ (List.Mem.tail _ (List.Mem.head _)))))))) rfl) rfl ?_
      refine OpsW.det (det_call en27 rfl (fun w hb ho => Mul_ok ho.blocks)) rfl ?_
      refine OpsW.fresh (fr_alloc z46r) rfl fun b9 => ?_
      refine OpsW.storeW46 rfl rfl (Upd.here) ?_
      refine sNext ?_
      refine W.keep (F' := [(9, _), (8, _), (7, _), (6, _), (5, _), (2, _)]) ⟨rfl, rfl, rfl, rfl, rfl, rfl, trivial⟩ ?_
      refine sSeq ?_
      refine W.draw mixed 14 [[], [], [], [], [2, 3], [1, 2, 3, 4], [], [1, 2, 3, 4, 5, 6], [], [1, 2, 3, 4, 5, 6, 7, 8], [], [], [1, 2, 3, 4, 5, 6, 7, 8, 9, 10, 11], [0, 1, 2, 3, 4, 5, 6, 7, 8, 9, 10, 11, 12], [0, 1, 2, 3, 4, 5, 6, 7, 8, 9, 10, 11, 12, 13]] (cl_lt (by decide)) ?_
      refine HeadR.start (cl_lt (by decide)) ?_
      refine HeadR.det rfl (fun β hβ => (det_loadW46 rfl (List.Mem.tail _ (List.Mem.head _)))) ?_
      refine HeadR.det rfl (fun β hβ => (det_loadW46 rfl (List.Mem.tail _ (List.Mem.tail _ (List.Mem.head _))))) ?_
      refine HeadR.det rfl (fun β hβ => (det_loadW46 rfl (List.Mem.tail _ (List.Mem.tail _ (List.Mem.tail _ (List.Mem.head _)))))) ?_
      refine HeadR.det rfl (fun β hβ => (det_loadW46 rfl (List.Mem.tail _ (List.Mem.head _)))) ?_
      refine HeadR.det rfl (fun β hβ => (det_call en95 rfl (fun w hb ho => Sub_ok ho.blocks))) ?_
      refine HeadR.det rfl (fun β hβ => (det_call en27 rfl (fun w hb ho => Mul_ok ho.blocks))) ?_
      refine HeadR.det rfl (fun β hβ => (det_loadW46 rfl (List.Mem.tail _ (List.Mem.tail _ (List.Mem.tail _ (List.Mem.tail _ (List.Mem.head _))))))) ?_
      refine HeadR.det rfl (fun β hβ => (det_call en95 rfl (fun w hb ho => Sub_ok ho.blocks))) ?_
      refine HeadR.det rfl (fun β hβ => (det_loadW46 rfl (List.Mem.tail _ (List.Mem.tail _ (List.Mem.tail _ (List.Mem.tail _ (List.Mem.head _))))))) ?_
      refine HeadR.det rfl (fun β hβ => (det_call en95 rfl (fun w hb ho => Sub_ok ho.blocks))) ?_
      refine HeadR.det rfl (fun β hβ => (det_loadW46 rfl (List.Mem.head _))) ?_
      refine HeadR.det rfl (fun β hβ => (det_loadW46 rfl (List.Mem.head _))) ?_
      refine HeadR.det rfl (fun β hβ => (det_call en28 rfl (fun w hb ho => Add_ok ho.blocks))) ?_
      refine HeadR.det rfl (fun β hβ => (det_build rfl bld112)) ?_
      refine HeadR.done ⟨by kernel_rfl, fun β hβ => ?_⟩
      refine OpsW.norm (F' := [(61, _), (62, _), (63, _), (64, _), (65, _), (66, _), (67, _), (68, _), (69, _), (70, _), (71, _), (72, _), (73, _), (74, _), (9, _), (8, _), (7, _), (6, _), (5, _), (2, _)]) (H' := [(_, _), (_, _), (_, _), (_, _), (_, _), (_, _), (_, _), (_, _), (_, _)]) rfl rfl ?_
      refine OpsW.storeW112 rfl rfl (Upd.there (Upd.there (Upd.there (Upd.there (Upd.there (Upd.there (Upd.there (Upd.here)))))))) ?_
      refine sNext ?_
      refine W.keep (F' := [(2, _)]) ⟨rfl, trivial⟩ ?_
      refine sRet ?_
      exact done1 Tryd.results86 (rv_cellA ty112 rfl (List.Mem.tail _ (List.Mem.tail _ (List.Mem.tail _ (List.Mem.tail _ (List.Mem.tail _ (List.Mem.tail _ (List.Mem.tail _ (List.Mem.head _)))))))) rfl) (congrArg encJ (jdbl_no hc12 hc17).symm)
theorem point_ok {p : Jac} {w : World} (hG : Blocks (GH T) w)  : Vm.Pure Tryd.prog 88 #[encJ p] w (encP (point p)) := by
  refine pure_of_W (n := 25) (args := [encJ p]) Tryd.func88 rfl Tryd.ntmps88 (Nat.le_of_ble_eq_true rfl) hG ?_
  refine sStart ?_
  refine sSeq ?_
  refine W.region ?_
  refine OpsW.fresh (fr_boxW112 rfl) rfl fun b1 => ?_
  refine OpsW.fresh (fr_alloc z48r) rfl fun b2 => ?_
  refine sNext ?_
  refine W.keep (F' := [(2, _), (1, _)]) ⟨rfl, rfl, trivial⟩ ?_
  refine sSeq ?_
  refine sSeq ?_
  refine W.region ?_
  refine OpsW.det (det_fieldAddr fl112_2 rfl) rfl ?_
  refine OpsW.det (det_loadA ty46 rfl (List.Mem.tail _ (List.Mem.head _)) rfl) rfl ?_
  refine OpsW.det (det_call en94 rfl (fun w hb ho => Zero_ok ho.blocks)) rfl ?_
  refine sNext ?_
  refine W.keep (F' := [(7, _), (2, _), (1, _)]) ⟨rfl, rfl, rfl, trivial⟩ ?_
  refine W.cond rfl (fun hc7 => ?_) (fun hc7 => ?_)
  · skip
    refine sSeq ?_
    refine W.region ?_
    refine OpsW.det (det_zero bz48) rfl ?_
    refine OpsW.storeW48 rfl rfl (Upd.here) ?_
    refine sNext ?_
    refine W.keep (F' := [(2, _)]) ⟨rfl, trivial⟩ ?_
    refine sRet ?_
    exact done1 Tryd.results88 (rv_cellA ty48 rfl (List.Mem.head _) rfl) (congrArg encP (point_yes hc7).symm)
  · skip
    refine sSkip ?_
    refine sSeq ?_
    refine W.region ?_
    refine OpsW.det (det_fieldAddr fl112_2 rfl) rfl ?_
    refine OpsW.det (det_loadA ty46 rfl (List.Mem.tail _ (List.Mem.head _)) rfl) rfl ?_
    refine OpsW.det (det_call en97 rfl (fun w hb ho => Inv_ok ho.blocks)) rfl ?_
    refine OpsW.fresh (fr_alloc z46r) rfl fun b3 => ?_
    refine OpsW.storeW46 rfl rfl (Upd.here) ?_
    refine sNext ?_
    refine W.keep (F' := [(3, _), (2, _), (1, _)]) ⟨rfl, rfl, rfl, trivial⟩ ?_
    refine sSeq ?_
    refine W.region ?_
    refine OpsW.det (det_loadW46 rfl (List.Mem.head _)) rfl ?_
    refine OpsW.det (det_call en26 rfl (fun w hb ho => Square_ok ho.blocks)) rfl ?_
    refine OpsW.fresh (fr_alloc z46r) rfl fun b4 => ?_
    refine OpsW.storeW46 rfl rfl (Upd.here) ?_
    refine sNext ?_
    refine W.keep (F' := [(4, _), (3, _), (2, _), (1, _)]) ⟨rfl, rfl, rfl, rfl, trivial⟩ ?_
    refine sSeq ?_
    refine W.draw mixed 11 [[], [0], [], [0, 1, 2], [], [4], [], [0, 1, 2, 3, 4, 5, 6], [], [0, 1, 2, 3, 4, 5, 6, 7, 8], [0, 1, 2, 3, 4, 5, 6, 7, 8, 9], [0, 1, 2, 3, 4, 5, 6, 7, 8, 9, 10]] (cl_lt (by decide)) ?_
    refine HeadR.start (cl_lt (by decide)) ?_
    refine HeadR.det rfl (fun β hβ => (det_fieldAddr fl112_0 rfl)) ?_
    refine HeadR.det rfl (fun β hβ => (det_loadA ty46 rfl (List.Mem.tail _ (List.Mem.tail _ (List.Mem.tail _ (List.Mem.head _)))) rfl)) ?_
    refine HeadR.det rfl (fun β hβ => (det_loadW46 rfl (List.Mem.head _))) ?_
    refine HeadR.det rfl (fun β hβ => (det_call en27 rfl (fun w hb ho => Mul_ok ho.blocks))) ?_
    refine HeadR.det rfl (fun β hβ => (det_fieldAddr fl112_1 rfl)) ?_
    refine HeadR.det rfl (fun β hβ => (det_loadA ty46 rfl (List.Mem.tail _ (List.Mem.tail _ (List.Mem.tail _ (List.Mem.head _)))) rfl)) ?_
    refine HeadR.det rfl (fun β hβ => (det_loadW46 rfl (List.Mem.head _))) ?_
    refine HeadR.det rfl (fun β hβ => (det_call en27 rfl (fun w hb ho => Mul_ok ho.blocks))) ?_
    refine HeadR.det rfl (fun β hβ => (det_loadW46 rfl (List.Mem.tail _ (List.Mem.head _)))) ?_
    refine HeadR.det rfl (fun β hβ => (det_call en27 rfl (fun w hb ho => Mul_ok ho.blocks))) ?_
    refine HeadR.det rfl (fun β hβ => (det_build rfl bld48)) ?_
    refine HeadR.done ⟨by kernel_rfl, fun β hβ => ?_⟩
    refine OpsW.norm (F' := [(14, _), (15, _), (16, _), (17, _), (18, _), (19, _), (20, _), (21, _), (22, _), (23, _), (24, _), (4, _), (3, _), (2, _), (1, _)]) (H' := [(_, _), (_, _), (_, _), (_, _)]) rfl rfl ?_
    refine OpsW.storeW48 rfl rfl (Upd.there (Upd.there (Upd.here))) ?_
    refine sNext ?_
    refine W.keep (F' := [(2, _)]) ⟨rfl, trivial⟩ ?_
    refine sRet ?_
    exact done1 Tryd.results88 (rv_cellA ty48 rfl (List.Mem.tail _ (List.Mem.tail _ (List.Mem.head _))) rfl) (congrArg encP (point_no hc7).symm)
theorem jadd_ok {p : Jac} {q : Pt} {w : World} (hG : Blocks (GH T) w)  : Vm.Pure Tryd.prog 87 #[encJ p, encP q] w (encJ (jadd p q)) := by
  refine pure_of_W (n := 100) (args := [encJ p, encP q]) Tryd.func87 rfl Tryd.ntmps87 (Nat.le_of_ble_eq_true rfl) hG ?_
  refine sStart ?_
  refine sSeq ?_
  refine W.region ?_
  refine OpsW.fresh (fr_boxW112 rfl) rfl fun b2 => ?_
  refine OpsW.fresh (fr_boxW48 rfl) rfl fun b3 => ?_
  refine OpsW.fresh (fr_alloc z112r) rfl fun b4 => ?_
  refine sNext ?_
  refine W.keep (F' := [(4, _), (3, _), (2, _)]) ⟨rfl, rfl, rfl, trivial⟩ ?_
  refine sSeq ?_
  refine sSeq ?_
  refine W.region ?_
  refine OpsW.det (det_loadW48 rfl (List.Mem.tail _ (List.Mem.head _))) rfl ?_
  refine OpsW.det (det_zero bz48) rfl ?_
  refine OpsW.det (det_eql48 rfl rfl) rfl ?_
  refine sNext ?_
  refine W.keep (F' := [(16, _), (4, _), (3, _), (2, _)]) ⟨rfl, rfl, rfl, rfl, trivial⟩ ?_
  refine W.cond rfl (fun hc16 => ?_) (fun hc16 => ?_)
  · skip
    refine sSeq ?_
    refine W.region ?_
    refine OpsW.det (det_loadW112 rfl (List.Mem.tail _ (List.Mem.tail _ (List.Mem.head _)))) rfl ?_
    refine OpsW.storeW112 rfl rfl (Upd.here) ?_
    refine sNext ?_
    refine W.keep (F' := [(4, _)]) ⟨rfl, trivial⟩ ?_
    refine sRet ?_
    exact done1 Tryd.results87 (rv_cellA ty112 rfl (List.Mem.head _) rfl) (congrArg encJ (jadd_q hc16).symm)
  · skip
    refine sSkip ?_
    refine sSeq ?_
    refine sSeq ?_
    refine W.region ?_
    refine OpsW.det (det_fieldAddr fl112_2 rfl) rfl ?_
    refine OpsW.det (det_loadA ty46 rfl (List.Mem.tail _ (List.Mem.tail _ (List.Mem.head _))) rfl) rfl ?_
    refine OpsW.det (det_call en94 rfl (fun w hb ho => Zero_ok ho.blocks)) rfl ?_
    refine sNext ?_
    refine W.keep (F' := [(20, _), (4, _), (3, _), (2, _)]) ⟨rfl, rfl, rfl, rfl, trivial⟩ ?_
    refine W.cond rfl (fun hc20 => ?_) (fun hc20 => ?_)
    · skip
      refine sSeq ?_
      refine W.region ?_
      refine OpsW.det (det_loadW48 rfl (List.Mem.tail _ (List.Mem.head _))) rfl ?_
      refine OpsW.det (det_call en96 rfl (fun w hb ho => tojac_ok ho.blocks)) rfl ?_
      refine OpsW.storeW112 rfl rfl (Upd.here) ?_
      refine sNext ?_
      refine W.keep (F' := [(4, _)]) ⟨rfl, trivial⟩ ?_
      refine sRet ?_
      exact done1 Tryd.results87 (rv_cellA ty112 rfl (List.Mem.head _) rfl) (congrArg encJ (jadd_p hc16 hc20).symm)
    · skip
      refine sSkip ?_
      refine sSeq ?_
      refine W.region ?_
      refine OpsW.det (det_fieldAddr fl112_2 rfl) rfl ?_
      refine OpsW.det (det_loadA ty46 rfl (List.Mem.tail _ (List.Mem.tail _ (List.Mem.head _))) rfl) rfl ?_
      refine OpsW.det (det_call en26 rfl (fun w hb ho => Square_ok ho.blocks)) rfl ?_
      refine OpsW.fresh (fr_alloc z46r) rfl fun b5 => ?_
      refine OpsW.storeW46 rfl rfl (Upd.here) ?_
      refine sNext ?_
      refine W.keep (F' := [(5, _), (4, _), (3, _), (2, _)]) ⟨rfl, rfl, rfl, rfl, trivial⟩ ?_
      refine sSeq ?_
      refine W.draw mixed 8 [[], [0], [], [0, 1, 2], [], [4], [0, 1, 2, 3, 4, 5], [], [0, 1, 2, 3, 4, 5, 6, 7]] (cl_lt (by decide)) ?_
      refine HeadR.start (cl_lt (by decide)) ?_
      refine HeadR.det rfl (fun β hβ => (det_fieldAddr fl48_0 rfl)) ?_
      refine HeadR.det rfl (fun β hβ => (det_loadA ty46 rfl (List.Mem.tail _ (List.Mem.tail _ (List.Mem.head _))) rfl)) ?_
      refine HeadR.det rfl (fun β hβ => (det_loadW46 rfl (List.Mem.head _))) ?_
      refine HeadR.det rfl (fun β hβ => (det_call en27 rfl (fun w hb ho => Mul_ok ho.blocks))) ?_
      refine HeadR.det rfl (fun β hβ => (det_fieldAddr fl112_0 rfl)) ?_
      refine HeadR.det rfl (fun β hβ => (det_loadA ty46 rfl (List.Mem.tail _ (List.Mem.tail _ (List.Mem.tail _ (List.Mem.head _)))) rfl)) ?_
      refine HeadR.det rfl (fun β hβ => (det_call en95 rfl (fun w hb ho => Sub_ok ho.blocks))) ?_
      refine HeadR.fresh rfl (fun β hβ => (fr_alloc z46r).new) ?_
      refine HeadR.done ⟨by kernel_rfl, fun β hβ => ?_⟩
      refine OpsW.norm (F' := [(26, _), (27, _), (28, _), (29, _), (30, _), (31, _), (32, _), (6, .pointer (some ⟨(β 6).1, 0, none⟩)), (5, _), (4, _), (3, _), (2, _)]) (H' := [(_, _), (_, _), (_, _), (_, _), (_, _)]) rfl rfl ?_
      generalize (β 6).1 = b6
      refine OpsW.storeW46 rfl rfl (Upd.here) ?_
      refine sNext ?_
      refine W.keep (F' := [(6, _), (5, _), (4, _), (3, _), (2, _)]) ⟨rfl, rfl, rfl, rfl, rfl, trivial⟩ ?_
      refine sSeq ?_
      refine W.draw mixed 11 [[], [0], [], [2], [0, 1, 2, 3], [], [0, 1, 2, 3, 4, 5], [], [7], [0, 1, 2, 3, 4, 5, 6, 7, 8], [], [0, 1, 2, 3, 4, 5, 6, 7, 8, 9, 10]] (cl_lt (by decide)) ?_
      refine HeadR.start (cl_lt (by decide)) ?_
      refine HeadR.det rfl (fun β hβ => (det_fieldAddr fl48_1 rfl)) ?_
      refine HeadR.det rfl (fun β hβ => (det_loadA ty46 rfl (List.Mem.tail _ (List.Mem.tail _ (List.Mem.tail _ (List.Mem.head _)))) rfl)) ?_
      refine HeadR.det rfl (fun β hβ => (det_fieldAddr fl112_2 rfl)) ?_
      refine HeadR.det rfl (fun β hβ => (det_loadA ty46 rfl (List.Mem.tail _ (List.Mem.tail _ (List.Mem.tail _ (List.Mem.tail _ (List.Mem.head _))))) rfl)) ?_
      refine HeadR.det rfl (fun β hβ => (det_call en27 rfl (fun w hb ho => Mul_ok ho.blocks))) ?_
      refine HeadR.det rfl (fun β hβ => (det_loadW46 rfl (List.Mem.tail _ (List.Mem.head _)))) ?_
      refine HeadR.det rfl (fun β hβ => (det_call en27 rfl (fun w hb ho => Mul_ok ho.blocks))) ?_
      refine HeadR.det rfl (fun β hβ => (det_fieldAddr fl112_1 rfl)) ?_
      refine HeadR.det rfl (fun β hβ => (det_loadA ty46 rfl (List.Mem.tail _ (List.Mem.tail _ (List.Mem.tail _ (List.Mem.tail _ (List.Mem.head _))))) rfl)) ?_
      refine HeadR.det rfl (fun β hβ => (det_call en95 rfl (fun w hb ho => Sub_ok ho.blocks))) ?_
      refine HeadR.fresh rfl (fun β hβ => (fr_alloc z46r).new) ?_
      refine HeadR.done ⟨by kernel_rfl, fun β hβ => ?_⟩
      refine OpsW.norm (F' := [(33, _), (34, _), (35, _), (36, _), (37, _), (38, _), (39, _), (40, _), (41, _), (42, _), (7, .pointer (some ⟨(β 7).1, 0, none⟩)), (6, _), (5, _), (4, _), (3, _), (2, _)]) (H' := [(_, _), (_, _), (_, _), (_, _), (_, _), (_, _)]) rfl rfl ?_
      generalize (β 7).1 = b7
      refine OpsW.storeW46 rfl rfl (Upd.here) ?_
      refine sNext ?_
      refine W.keep (F' := [(7, _), (6, _), (5, _), (4, _), (2, _)]) ⟨rfl, rfl, rfl, rfl, rfl, trivial⟩ ?_
      refine sSeq ?_
      refine sSeq ?_
      refine W.region ?_
      refine OpsW.det (det_loadW46 rfl (List.Mem.tail _ (List.Mem.head _))) rfl ?_
      refine OpsW.det (det_call en94 rfl (fun w hb ho => Zero_ok ho.blocks)) rfl ?_
      refine sNext ?_
      refine W.keep (F' := [(44, _), (7, _), (6, _), (5, _), (4, _), (2, _)]) ⟨rfl, rfl, rfl, rfl, rfl, rfl, trivial⟩ ?_
      refine W.cond rfl (fun hc44 => ?_) (fun hc44 => ?_)
      · skip
        refine sSeq ?_
        refine sSeq ?_
        refine W.region ?_
        refine OpsW.det (det_loadW46 rfl (List.Mem.head _)) rfl ?_
        refine OpsW.det (det_call en94 rfl (fun w hb ho => Zero_ok ho.blocks)) rfl ?_
        refine sNext ?_
        refine W.keep (F' := [(46, _), (4, _), (2, _)]) ⟨rfl, rfl, rfl, trivial⟩ ?_
        refine W.cond rfl (fun hc46 => ?_) (fun hc46 => ?_)
        · skip
          refine sSeq ?_
          refine W.region ?_
          refine OpsW.det (det_loadW112 rfl (List.Mem.tail _ (List.Mem.tail _ (List.Mem.tail _ (List.Mem.tail _ (List.Mem.tail _ (List.Mem.head _))))))) rfl ?_
          refine OpsW.det (det_call en86 rfl (fun w hb ho => jdbl_ok ho.blocks)) rfl ?_
          refine OpsW.storeW112 rfl rfl (Upd.there (Upd.there (Upd.there (Upd.here)))) ?_
          refine sNext ?_
          refine W.keep (F' := [(4, _)]) ⟨rfl, trivial⟩ ?_
          refine sRet ?_
          exact done1 Tryd.results87 (rv_cellA ty112 rfl (List.Mem.tail _ (List.Mem.tail _ (List.Mem.tail _ (List.Mem.head _)))) rfl) (congrArg encJ (jadd_d hc16 hc20 hc44 hc46).symm)
        · skip
          refine sSkip ?_
          refine sSeq ?_
          refine W.region ?_
          refine OpsW.det (det_zero bz112) rfl ?_
          refine OpsW.storeW112 rfl rfl (Upd.there (Upd.there (Upd.there (Upd.here)))) ?_
          refine sNext ?_
          refine W.keep (F' := [(4, _)]) ⟨rfl, trivial⟩ ?_
          refine sRet ?_
          exact done1 Tryd.results87 (rv_cellA ty112 rfl (List.Mem.tail _ (List.Mem.tail _ (List.Mem.tail _ (List.Mem.head _)))) rfl) (congrArg encJ (jadd_o hc16 hc20 hc44 hc46).symm)
      · skip
        refine sSkip ?_
        refine sSeq ?_
        refine W.region ?_
        refine OpsW.det (det_loadW46 rfl (List.Mem.head _)) rfl ?_
        refine OpsW.det (det_loadW46 rfl (List.Mem.head _)) rfl ?_
        refine OpsW.det (det_call en28 rfl (fun w hb ho => Add_ok ho.blocks)) rfl ?_
        refine OpsW.storeW46 rfl rfl (Upd.here) ?_
        refine sNext ?_
        refine W.keep (F' := [(7, _), (6, _), (5, _), (4, _), (2, _)]) ⟨rfl, rfl, rfl, rfl, rfl, trivial⟩ ?_
        refine sSeq ?_
        refine W.region ?_
        refine OpsW.det (det_loadW46 rfl (List.Mem.tail _ (List.Mem.head _))) rfl ?_
        refine OpsW.det (det_call en26 rfl (fun w hb ho => Square_ok ho.blocks)) rfl ?_
        refine OpsW.fresh (fr_alloc z46r) rfl fun b8 => ?_
        refine OpsW.storeW46 rfl rfl (Upd.here) ?_
        refine sNext ?_
        refine W.keep (F' := [(8, _), (7, _), (6, _), (5, _), (4, _), (2, _)]) ⟨rfl, rfl, rfl, rfl, rfl, rfl, trivial⟩ ?_
        refine sSeq ?_
        refine W.region ?_
        refine OpsW.det (det_loadW46 rfl (List.Mem.head _)) rfl ?_
        refine OpsW.det (det_loadW46 rfl (List.Mem.head _)) rfl ?_
        refine OpsW.det (det_call en28 rfl (fun w hb ho => Add_ok ho.blocks)) rfl ?_
        refine OpsW.fresh (fr_alloc z46r) rfl fun b9 => ?_
        refine OpsW.storeW46 rfl rfl (Upd.here) ?_
        refine sNext ?_
        refine W.keep (F' := [(9, _), (8, _), (7, _), (6, _), (5, _), (4, _), (2, _)]) ⟨rfl, rfl, rfl, rfl, rfl, rfl, rfl, trivial⟩ ?_
        refine sSeq ?_
        refine W.region ?_
        refine OpsW.det (det_loadW46 rfl (List.Mem.head _)) rfl ?_
        refine OpsW.det (det_loadW46 rfl (List.Mem.head _)) rfl ?_
        refine OpsW.det (det_call en28 rfl (fun w hb ho => Add_ok ho.blocks)) rfl ?_
        refine OpsW.storeW46 rfl rfl (Upd.here) ?_
        refine sNext ?_
        refine W.keep (F' := [(9, _), (8, _), (7, _), (6, _), (5, _), (4, _), (2, _)]) ⟨rfl, rfl, rfl, rfl, rfl, rfl, rfl, trivial⟩ ?_
        refine sSeq ?_
        refine W.draw mixed 9 [[], [], [0, 1], [], [3], [], [0, 1, 2, 3, 4, 5], [], [], [0, 1, 2, 3, 4, 5, 6, 7, 8], [0, 1, 2, 3, 4, 5, 6, 7, 8, 9]] (cl_lt (by decide)) ?_
        refine HeadR.start (cl_lt (by decide)) ?_
        refine HeadR.det rfl (fun β hβ => (det_loadW46 rfl (List.Mem.tail _ (List.Mem.tail _ (List.Mem.tail _ (List.Mem.head _)))))) ?_
        refine HeadR.det rfl (fun β hβ => (det_loadW46 rfl (List.Mem.head _))) ?_
        refine HeadR.det rfl (fun β hβ => (det_call en27 rfl (fun w hb ho => Mul_ok ho.blocks))) ?_
        refine HeadR.det rfl (fun β hβ => (det_fieldAddr fl112_0 rfl)) ?_
        refine HeadR.det rfl (fun β hβ => (det_loadA ty46 rfl (List.Mem.tail _ (List.Mem.tail _ (List.Mem.tail _ (List.Mem.tail _ (List.Mem.tail _ (List.Mem.tail _ (List.Mem.tail _ (List.Mem.head _)))))))) rfl)) ?_
        refine HeadR.det rfl (fun β hβ => (det_loadW46 rfl (List.Mem.head _))) ?_
        refine HeadR.det rfl (fun β hβ => (det_call en27 rfl (fun w hb ho => Mul_ok ho.blocks))) ?_
        refine HeadR.fresh rfl (fun β hβ => (fr_alloc z46r).new) ?_
        refine HeadR.fresh rfl (fun β hβ => (fr_alloc z46r).new) ?_
        refine HeadR.done ⟨by kernel_rfl, fun β hβ => ?_⟩
        refine OpsW.norm (F' := [(61, _), (62, _), (63, _), (64, _), (65, _), (66, _), (67, _), (10, .pointer (some ⟨(β 10).1, 0, none⟩)), (11, .pointer (some ⟨(β 11).1, 0, none⟩)), (9, _), (8, _), (7, _), (6, _), (5, _), (4, _), (2, _)]) (H' := [(_, _), (_, _), (_, _), (_, _), (_, _), (_, _), (_, _), (_, _), (_, _), (_, _)]) rfl rfl ?_
        generalize (β 10).1 = b10
        generalize (β 11).1 = b11
        refine OpsW.storeW46 rfl rfl (Upd.here) ?_
        refine OpsW.storeW46 rfl rfl (Upd.there (Upd.here)) ?_
        refine sNext ?_
        refine W.keep (F' := [(10, _), (11, _), (8, _), (7, _), (6, _), (5, _), (4, _), (2, _)]) ⟨rfl, rfl, rfl, rfl, rfl, rfl, rfl, rfl, trivial⟩ ?_
        refine sSeq ?_
        refine W.draw mixed 9 [[], [0], [], [0, 1, 2], [], [0, 1, 2, 3, 4], [], [0, 1, 2, 3, 4, 5, 6], [], [0, 1, 2, 3, 4, 5, 6, 7, 8]] (cl_lt (by decide)) ?_
        refine HeadR.start (cl_lt (by decide)) ?_
        refine HeadR.det rfl (fun β hβ => (det_loadW46 rfl (List.Mem.tail _ (List.Mem.tail _ (List.Mem.tail _ (List.Mem.tail _ (List.Mem.head _))))))) ?_
        refine HeadR.det rfl (fun β hβ => (det_call en26 rfl (fun w hb ho => Square_ok ho.blocks))) ?_
        refine HeadR.det rfl (fun β hβ => (det_loadW46 rfl (List.Mem.head _))) ?_
        refine HeadR.det rfl (fun β hβ => (det_call en95 rfl (fun w hb ho => Sub_ok ho.blocks))) ?_
        refine HeadR.det rfl (fun β hβ => (det_loadW46 rfl (List.Mem.tail _ (List.Mem.head _)))) ?_
        refine HeadR.det rfl (fun β hβ => (det_call en95 rfl (fun w hb ho => Sub_ok ho.blocks))) ?_
        refine HeadR.det rfl (fun β hβ => (det_loadW46 rfl (List.Mem.tail _ (List.Mem.head _)))) ?_
        refine HeadR.det rfl (fun β hβ => (det_call en95 rfl (fun w hb ho => Sub_ok ho.blocks))) ?_
        refine HeadR.fresh rfl (fun β hβ => (fr_alloc z46r).new) ?_
        refine HeadR.done ⟨by kernel_rfl, fun β hβ => ?_⟩
        refine OpsW.norm (F' := [(68, _), (69, _), (70, _), (71, _), (72, _), (73, _), (74, _), (75, _), (12, .pointer (some ⟨(β 12).1, 0, none⟩)), (10, _), (11, _), (8, _), (7, _), (6, _), (5, _), (4, _), (2, _)]) (H' := [(_, _), (_, _), (_, _), (_, _), (_, _), (_, _), (_, _), (_, _), (_, _), (_, _), (_, _)]) rfl rfl ?_
        generalize (β 12).1 = b12
        refine OpsW.storeW46 rfl rfl (Upd.here) ?_
        refine sNext ?_
        refine W.keep (F' := [(12, _), (10, _), (11, _), (8, _), (7, _), (6, _), (5, _), (4, _), (2, _)]) ⟨rfl, rfl, rfl, rfl, rfl, rfl, rfl, rfl, rfl, trivial⟩ ?_
        refine sSeq ?_
        refine W.region ?_
        refine OpsW.det (det_fieldAddr fl112_1 rfl) rfl ?_
        refine OpsW.det (det_loadA ty46 rfl (List.Mem.tail _ (List.Mem.tail _ (List.Mem.tail _ (List.Mem.tail _ (List.Mem.tail _ (List.Mem.tail _ (List.Mem.tail _ (List.Mem.tail _ (List.Mem.tail _ (List.Mem.tail _ (List.Mem.head _))))))))))) rfl) rfl ?_
        refine OpsW.det (det_loadW46 rfl (List.Mem.tail _ (List.Mem.head _))) rfl ?_
        refine OpsW.det (det_call en27 rfl (fun w hb ho => Mul_ok ho.blocks)) rfl ?_
        refine OpsW.fresh (fr_alloc z46r) rfl fun b13 => ?_
        refine OpsW.storeW46 rfl rfl (Upd.here) ?_
        refine sNext ?_
        refine W.keep (F' := [(13, _), (12, _), (11, _), (8, _), (7, _), (6, _), (5, _), (4, _), (2, _)]) ⟨rfl, rfl, rfl, rfl, rfl, rfl, rfl, rfl, rfl, trivial⟩ ?_
        refine sSeq ?_
        refine W.draw mixed 20 [[], [], [], [], [2, 3], [1, 2, 3, 4], [], [1, 2, 3, 4, 5, 6], [], [1, 2, 3, 4, 5, 6, 7, 8], [], [10], [], [1, 2, 3, 4, 5, 6, 7, 8, 9, 10, 11, 12], [1, 2, 3, 4, 5, 6, 7, 8, 9, 10, 11, 12, 13], [], [1, 2, 3, 4, 5, 6, 7, 8, 9, 10, 11, 12, 13, 14, 15], [], [1, 2, 3, 4, 5, 6, 7, 8, 9, 10, 11, 12, 13, 14, 15, 16, 17], [0, 1, 2, 3, 4, 5, 6, 7, 8, 9, 10, 11, 12, 13, 14, 15, 16, 17, 18], [0, 1, 2, 3, 4, 5, 6, 7, 8, 9, 10, 11, 12, 13, 14, 15, 16, 17, 18, 19]] (cl_lt (by decide)) ?_
        refine HeadR.start (cl_lt (by decide)) ?_
        refine HeadR.det rfl (fun β hβ => (det_loadW46 rfl (List.Mem.tail _ (List.Mem.head _)))) ?_
        refine HeadR.det rfl (fun β hβ => (det_loadW46 rfl (List.Mem.tail _ (List.Mem.tail _ (List.Mem.tail _ (List.Mem.tail _ (List.Mem.tail _ (List.Mem.tail _ (List.Mem.head _))))))))) ?_
        refine HeadR.det rfl (fun β hβ => (det_loadW46 rfl (List.Mem.tail _ (List.Mem.tail _ (List.Mem.tail _ (List.Mem.head _)))))) ?_
        refine HeadR.det rfl (fun β hβ => (det_loadW46 rfl (List.Mem.tail _ (List.Mem.head _)))) ?_
        refine HeadR.det rfl (fun β hβ => (det_call en95 rfl (fun w hb ho => Sub_ok ho.blocks))) ?_
        refine HeadR.det rfl (fun β hβ => (det_call en27 rfl (fun w hb ho => Mul_ok ho.blocks))) ?_
        refine HeadR.det rfl (fun β hβ => (det_loadW46 rfl (List.Mem.head _))) ?_
        refine HeadR.det rfl (fun β hβ => (det_call en95 rfl (fun w hb ho => Sub_ok ho.blocks))) ?_
        refine HeadR.det rfl (fun β hβ => (det_loadW46 rfl (List.Mem.head _))) ?_
        refine HeadR.det rfl (fun β hβ => (det_call en95 rfl (fun w hb ho => Sub_ok ho.blocks))) ?_
        refine HeadR.det rfl (fun β hβ => (det_fieldAddr fl112_2 rfl)) ?_
        refine HeadR.det rfl (fun β hβ => (det_loadA ty46 rfl (List.Mem.tail _ (List.Mem.tail _ (List.Mem.tail _ (List.Mem.tail _ (List.Mem.tail _ (List.Mem.tail _ (List.Mem.tail _ (List.Mem.tail _ (List.Mem.tail _ (List.Mem.tail _ (List.Mem.tail _ (List.Mem.head _)))))))))))) rfl)) ?_
        refine HeadR.det rfl (fun β hβ => (det_loadW46 rfl (List.Mem.tail _ (List.Mem.tail _ (List.Mem.tail _ (List.Mem.tail _ (List.Mem.tail _ (List.Mem.tail _ (List.Mem.tail _ (List.Mem.head _)))))))))) ?_
        refine HeadR.det rfl (fun β hβ => (det_call en28 rfl (fun w hb ho => Add_ok ho.blocks))) ?_
        refine HeadR.det rfl (fun β hβ => (det_call en26 rfl (fun w hb ho => Square_ok ho.blocks))) ?_
        refine HeadR.det rfl (fun β hβ => (det_loadW46 rfl (List.Mem.tail _ (List.Mem.tail _ (List.Mem.tail _ (List.Mem.tail _ (List.Mem.tail _ (List.Mem.tail _ (List.Mem.tail _ (List.Mem.tail _ (List.Mem.head _))))))))))) ?_
        refine HeadR.det rfl (fun β hβ => (det_call en95 rfl (fun w hb ho => Sub_ok ho.blocks))) ?_
        refine HeadR.det rfl (fun β hβ => (det_loadW46 rfl (List.Mem.tail _ (List.Mem.tail _ (List.Mem.tail _ (List.Mem.tail _ (List.Mem.tail _ (List.Mem.head _)))))))) ?_
        refine HeadR.det rfl (fun β hβ => (det_call en95 rfl (fun w hb ho => Sub_ok ho.blocks))) ?_
        refine HeadR.det rfl (fun β hβ => (det_build rfl bld112)) ?_
        refine HeadR.done ⟨by kernel_rfl, fun β hβ => ?_⟩
        refine OpsW.norm (F' := [(80, _), (81, _), (82, _), (83, _), (84, _), (85, _), (86, _), (87, _), (88, _), (89, _), (90, _), (91, _), (92, _), (93, _), (94, _), (95, _), (96, _), (97, _), (98, _), (99, _), (13, _), (12, _), (11, _), (8, _), (7, _), (6, _), (5, _), (4, _), (2, _)]) (H' := [(_, _), (_, _), (_, _), (_, _), (_, _), (_, _), (_, _), (_, _), (_, _), (_, _), (_, _), (_, _)]) rfl rfl ?_
        refine OpsW.storeW112 rfl rfl (Upd.there (Upd.there (Upd.there (Upd.there (Upd.there (Upd.there (Upd.there (Upd.there (Upd.there (Upd.here)))))))))) ?_
        refine sNext ?_
        refine W.keep (F' := [(4, _)]) ⟨rfl, trivial⟩ ?_
        refine sRet ?_
        exact done1 Tryd.results87 (rv_cellA ty112 rfl (List.Mem.tail _ (List.Mem.tail _ (List.Mem.tail _ (List.Mem.tail _ (List.Mem.tail _ (List.Mem.tail _ (List.Mem.tail _ (List.Mem.tail _ (List.Mem.tail _ (List.Mem.head _)))))))))) rfl) (congrArg encJ (jadd_n hc16 hc20 hc44).symm)

end Go.Cw

/- Scalars of bytes, and bits of bytes: the walks. Conditions: as many bytes as memory has. -/
namespace Go.Cw
open Go Go.Vm Go.RowKit Go.Proofs Go.Cu
attribute [local irreducible] W OpsW Det Fresh New Writes Vm.Pure Makes Changes ExternTo BuildTo ZeroTo FieldTo IndexTo BinTo SliceTo Vm.Enters
set_option linter.unusedVariables false
set_option linter.unusedSimpArgs false
variable {T : Nat → TypeId × Nat × Nat}


theorem bit_ok {G' : Hp} {v : Value} {l : List Nat} {i bv : Nat} (hB : Bs G' v l) (hl : l.length ≤ 1000000000000) (hi : i ≤ 10000000000000) {w : World} (hG : Blocks ((bv, blk [v] 22) :: (G' ++ GH T)) w)  : Vm.Pure Tryd.prog 85 #[.int .i64 (i : Nat), .pointer (some ⟨bv, 0, none⟩)] w (.int .i64 (bitB l i : Nat)) := by
  obtain ⟨ad, cap, hvv⟩ := hB.shape
  refine pure_of_W (n := 23) (args := [.int .i64 (i : Nat), .pointer (some ⟨bv, 0, none⟩)]) Tryd.func85 rfl Tryd.ntmps85 (Nat.le_of_ble_eq_true rfl) hG ?_
  refine sStart ?_
  refine sSeq ?_
  subst hvv
  refine W.region ?_
  refine OpsW.det (det_assign rfl) rfl ?_
  refine sNext ?_
  refine W.keep (F' := [(0, _), (1, _)]) ⟨rfl, rfl, trivial⟩ ?_
  refine sSeq ?_
  refine sSeq ?_
  refine W.region ?_
  refine OpsW.det (det_move rfl) rfl ?_
  refine OpsW.det (det_loadC_ro tyc22 rfl (List.Mem.head _) rfl) rfl ?_
  refine OpsW.det (det_len u22 rfl) rfl ?_
  refine OpsW.det ((det_mul rfl rfl).to (v := .int .i64 ((8 * l.length : Nat) : Int)) (by rw [wrap_i64 (by omega)]; congr 1)) rfl ?_
  refine OpsW.det (det_geq rfl rfl) rfl ?_
  refine sNext ?_
  refine W.keep (F' := [(8, _), (0, _), (1, _)]) ⟨rfl, rfl, rfl, trivial⟩ ?_
  refine W.cond rfl (fun hc8 => ?_) (fun hc8 => ?_)
  · skip
    have hge : 8 * l.length ≤ i := by have h := hc8; simp only [decide_eq_true_eq] at h; omega
    refine sSeq ?_
    refine W.region ?_
    refine OpsW.det (det_assign rfl) rfl ?_
    refine sNext ?_
    refine W.keep (F' := [(3, _)]) ⟨rfl, trivial⟩ ?_
    refine sRet ?_
    exact done1 Tryd.results85 (rv_tmp rfl) (by rw [bitB_no hge]; rfl)
  · skip
    have hge : ¬ 8 * l.length ≤ i := by have h := hc8; simp only [decide_eq_false_iff_not] at h; omega
    have hlt : l.length - 1 - i / 8 < l.length := by omega
    obtain ⟨bk, o, cap', cs, e, fr, hv, hm, hcell⟩ := hB.at_ _ hlt
    simp only [Value.slice.injEq] at hv
    obtain ⟨rfl, _, rfl⟩ := hv
    refine sSkip ?_
    refine sSeq ?_
    refine W.region ?_
    refine OpsW.det (det_loadC_ro tyc22 rfl (List.Mem.head _) rfl) rfl ?_
    refine OpsW.det (det_loadC_ro tyc22 rfl (List.Mem.head _) rfl) rfl ?_
    refine OpsW.det (det_len u22 rfl) rfl ?_
    refine OpsW.det (det_subZ (c := ((l.length - 1 : Nat) : Int)) rfl rfl (by omega) (by omega)) rfl ?_
    refine OpsW.det (det_move rfl) rfl ?_
    refine OpsW.det (det_quoN (b := 8) rfl rfl (by decide) (by omega)) rfl ?_
    refine OpsW.det (det_subZ (c := ((l.length - 1 - i / 8 : Nat) : Int)) rfl rfl (by omega) (by omega)) rfl ?_
    refine OpsW.det (det_indexAddr_sl u22 sz5 rfl rfl ⟨by omega, by omega⟩) rfl ?_
    refine OpsW.det (det_loadC_ro ty5 rfl (List.Mem.tail _ (List.mem_append_left _ hm)) (show cs[o + ((l.length - 1 - i / 8 : Nat) : Int).toNat * 1]? = some (u8 l[l.length - 1 - i / 8]) by simpa using hcell)) rfl ?_
    refine OpsW.det (det_move rfl) rfl ?_
    refine OpsW.det (det_remN (b := 8) rfl rfl (by decide)) rfl ?_
    refine OpsW.det (det_shr8 rfl rfl (by omega)) rfl ?_
    refine OpsW.det (det_and8 rfl rfl (Nat.lt_of_le_of_lt (Nat.div_le_self _ _) (hB.small _ (List.getElem_mem hlt)))) rfl ?_
    refine OpsW.det ((det_conv u5 u3 rfl).to (v := .int .i64 ((l[l.length - 1 - i / 8] / 2 ^ (i % 8) % 2 : Nat) : Int)) (by rw [wrap_i64 (by omega)])) rfl ?_
    refine OpsW.det (det_assign rfl) rfl ?_
    refine sNext ?_
    refine W.keep (F' := [(3, _)]) ⟨rfl, trivial⟩ ?_
    refine sRet ?_
    exact done1 Tryd.results85 (rv_tmp rfl) (by rw [bitB_yes hge hlt])

end Go.Cw

/- The second group: so many times: the walk. Conditions: as many bytes as memory has. -/
namespace Go.Cw
open Go Go.Vm Go.RowKit Go.Proofs Go.Cu
attribute [local irreducible] W OpsW Det Fresh New Writes Vm.Pure Makes Changes ExternTo BuildTo ZeroTo FieldTo IndexTo BinTo SliceTo Vm.Enters
set_option linter.unusedVariables false
set_option linter.unusedSimpArgs false
variable {T : Nat → TypeId × Nat × Nat}

def stp (p : Pt) (d : Int) (j : Jac) : Jac := if d = 1 then jadd j p else if d = -1 then jadd j (pneg p) else j
/-- The ladder, m digits down from the highest. -/
def jl (l : List Nat) (p : Pt) : Nat → Jac
  | 0 => (0, 0, 0)
  | m + 1 => stp p (dg l (8 * l.length - m)) (jdbl (jl l p m))
def times (l : List Nat) (p : Pt) : Pt := point (jl l p (8 * l.length + 1))
theorem jl_step {l : List Nat} {p : Pt} {k : Nat} (h : k + 1 ≤ 8 * l.length + 1) : jl l p (8 * l.length + 1 - k) = stp p (dg l k) (jdbl (jl l p (8 * l.length + 1 - (k + 1)))) := by
  obtain ⟨m, hm⟩ : ∃ m, 8 * l.length + 1 - (k + 1) = m := ⟨_, rfl⟩
  rw [show 8 * l.length + 1 - k = m + 1 by omega, hm, jl, show 8 * l.length - m = k by omega]
theorem jl_one {l : List Nat} {p : Pt} {k : Nat} (h : k + 1 ≤ 8 * l.length + 1) (hd : (dg l k == 1) = true) : jl l p (8 * l.length + 1 - k) = jadd (jdbl (jl l p (8 * l.length + 1 - (k + 1)))) p := by
  rw [jl_step h, stp, if_pos (by simpa using hd)]
theorem jl_neg {l : List Nat} {p : Pt} {k : Nat} (h : k + 1 ≤ 8 * l.length + 1) (h1 : (dg l k == 1) = false) (hd : (dg l k == -1) = true) : jl l p (8 * l.length + 1 - k) = jadd (jdbl (jl l p (8 * l.length + 1 - (k + 1)))) (pneg p) := by
  rw [jl_step h, stp, if_neg (by simpa using h1), if_pos (by simpa using hd)]
theorem jl_nil {l : List Nat} {p : Pt} {k : Nat} (h : k + 1 ≤ 8 * l.length + 1) (h1 : (dg l k == 1) = false) (hd : (dg l k == -1) = false) : jl l p (8 * l.length + 1 - k) = jdbl (jl l p (8 * l.length + 1 - (k + 1))) := by
  rw [jl_step h, stp, if_neg (by simpa using h1), if_neg (by simpa using hd)]

theorem en46 : Vm.Enters Tryd.prog 46 := Vm.Enters.of fun _ _ => by kernel_rfl
theorem en87 : Vm.Enters Tryd.prog 87 := Vm.Enters.of fun _ _ => by kernel_rfl
theorem en88 : Vm.Enters Tryd.prog 88 := Vm.Enters.of fun _ _ => by kernel_rfl
theorem en85 : Vm.Enters Tryd.prog 85 := Vm.Enters.of fun _ _ => by kernel_rfl
set_option maxHeartbeats 1000000 in
theorem Times_ok {G' : Hp} {v : Value} {l : List Nat} {p : Pt} (hB : Bs G' v l) (hl : l.length ≤ 1000000000000) {w : World} (hG : Blocks (G' ++ GH T) w)  : Vm.Pure Tryd.prog 64 #[encP p, v] w (encP (times l p)) := by
  obtain ⟨ad, cap, hvv⟩ := hB.shape
  refine pure_of_W (n := 77) (args := [encP p, v]) Tryd.func64 rfl Tryd.ntmps64 (Nat.le_of_ble_eq_true rfl) hG ?_
  refine sStart ?_
  refine sSeq ?_
  subst hvv
  refine W.region ?_
  refine OpsW.fresh (fr_boxW48 rfl) rfl fun b2 => ?_
  refine OpsW.fresh (fr_box rfl rfl) rfl fun b3 => ?_
  refine OpsW.fresh (fr_alloc z48r) rfl fun b4 => ?_
  refine sNext ?_
  refine W.keep (F' := [(4, _), (3, _), (2, _)]) ⟨rfl, rfl, rfl, trivial⟩ ?_
  refine sSeq ?_
  refine W.region ?_
  refine OpsW.det (det_loadC tyc22 rfl (List.Mem.tail _ (List.Mem.head _)) rfl) rfl ?_
  refine OpsW.det (det_len u22 rfl) rfl ?_
  refine OpsW.det ((det_mul rfl rfl).to (v := .int .i64 ((8 * l.length : Nat) : Int)) (by rw [wrap_i64 (by omega)]; congr 1)) rfl ?_
  refine OpsW.det (det_addN (b := 1) rfl rfl (by omega)) rfl ?_
  refine OpsW.fresh (fr_makeSlice (l := 0) ty76 rfl rfl (Nat.zero_le _) (by omega) (by omega)) rfl fun b17 => ?_
  refine OpsW.det (det_assign rfl) rfl ?_
  refine sNext ?_
  refine W.keep (F' := [(5, _), (4, _), (3, _), (2, _)]) ⟨rfl, rfl, rfl, rfl, trivial⟩ ?_
  refine sSeq ?_
  refine W.region ?_
  refine OpsW.det (det_func1 rfl) rfl ?_
  refine OpsW.det (det_assign rfl) rfl ?_
  refine sNext ?_
  refine W.keep (F' := [(6, _), (5, _), (4, _), (3, _), (2, _)]) ⟨rfl, rfl, rfl, rfl, rfl, trivial⟩ ?_
  refine sSeq ?_
  refine W.region ?_
  refine OpsW.det (det_assign rfl) rfl ?_
  refine sNext ?_
  refine sSeq ?_
  refine sSeq ?_
  refine W.region ?_
  refine OpsW.det (det_loadC tyc22 rfl (List.Mem.tail _ (List.Mem.tail _ (List.Mem.head _))) rfl) rfl ?_
  refine OpsW.det (det_len u22 rfl) rfl ?_
  refine OpsW.det ((det_mul rfl rfl).to (v := .int .i64 ((8 * l.length : Nat) : Int)) (by rw [wrap_i64 (by omega)]; congr 1)) rfl ?_
  refine OpsW.det (det_addN (b := 1) rfl rfl (by omega)) rfl ?_
  refine OpsW.det (det_move rfl) rfl ?_
  refine sNext ?_
  refine W.keep (F' := [(23, _), (22, _), (7, _), (6, _), (5, _), (4, _), (2, _)]) ⟨rfl, rfl, rfl, rfl, rfl, rfl, rfl, trivial⟩ ?_
  refine sBlock ?_
  refine sLoop (σ := Nat × Value × Hp) (fun s => [(23, .int .i64 (s.1 : Nat)), (22, .int .i64 ((8 * l.length + 1 : Nat) : Int)), (7, .int .i64 (ov l s.1 : Nat)), (6, .func (.func 85) #[] #[.pointer (some ⟨b3, 0, none⟩)]), (5, s.2.1), (4, .pointer (some ⟨b4, 0, none⟩)), (2, .pointer (some ⟨b2, 0, none⟩))]) (fun s => s.2.2 ++ [(b4, blk (cellsP (0, 0)) 48), (b3, blk [.slice ad l.length cap] 22), (b2, blk (cellsP p) 48)]) (fun s => s.1 ≤ 8 * l.length + 1 ∧ IsSl 3 1 s.2.1 s.1 s.2.2 (digs l s.1)) (fun s => 8 * l.length + 1 - s.1) (0, .slice (some ⟨b17, 0, none⟩) 0 (8 * l.length + 1), [(b17, blk ([] ++ zrep [.int .i64 0] (8 * l.length + 1)) 3)]) ⟨Nat.zero_le _, .at_ rfl (by simp [zrep_length]) (by show 8 * l.length + 1 ≤ 9223372036854775807; omega)⟩ ⟨rfl, rfl, rfl, rfl, rfl, rfl, rfl, trivial⟩ (List.Sublist.refl _) ?_
  rintro ⟨i, vd, hp⟩ ⟨hi, hsl⟩
  change IsSl 3 1 vd i hp (digs l i) at hsl
  change i ≤ 8 * l.length + 1 at hi
  refine W.norm (F' := [(23, .int .i64 (i : Nat)), (22, .int .i64 ((8 * l.length + 1 : Nat) : Int)), (7, .int .i64 (ov l i : Nat)), (6, .func (.func 85) #[] #[.pointer (some ⟨b3, 0, none⟩)]), (5, vd), (4, .pointer (some ⟨b4, 0, none⟩)), (2, .pointer (some ⟨b2, 0, none⟩))]) (H' := hp ++ [(b4, blk (cellsP (0, 0)) 48), (b3, blk [.slice ad l.length cap] 22), (b2, blk (cellsP p) 48)]) rfl rfl ?_
  refine sSeq ?_
  refine W.region ?_
  refine OpsW.det (det_lss rfl rfl) rfl ?_
  refine sNext ?_
  refine sSeq ?_
  refine W.cond rfl (fun hc24 => ?_) (fun hc24 => ?_)
  · skip
    have hlt : i < 8 * l.length + 1 := by have h := hc24; simp only [decide_eq_true_eq] at h; omega
    refine sSkip ?_
    refine sSeq ?_
    refine sBlock ?_
    refine sSeq ?_
    refine W.region ?_
    refine OpsW.det (det_move rfl) rfl ?_
    refine OpsW.det (det_assign rfl) rfl ?_
    refine sNext ?_
    refine W.keep (F' := [(8, _), (23, _), (22, _), (7, _), (6, _), (5, _), (4, _), (2, _)]) ⟨rfl, rfl, rfl, rfl, rfl, rfl, rfl, rfl, trivial⟩ ?_
    refine sSeq ?_
    refine W.region ?_
    refine OpsW.det (det_move rfl) rfl ?_
    refine OpsW.det (det_move rfl) rfl ?_
    refine OpsW.det (det_callv en85 (caps := [.pointer (some ⟨b3, 0, none⟩)]) rfl rfl (fun w hb ho => bit_ok (G' := G') (bv := b3) (i := i) hB hl (by omega) (blocks_cons (hb _ (List.mem_append_right _ (List.Mem.tail _ (List.Mem.head _)))) ho.blocks))) rfl ?_
    refine OpsW.det (det_move rfl) rfl ?_
    refine OpsW.det (det_addN rfl rfl (by have := bitB_le l i; have := ov_le l i; omega)) rfl ?_
    refine OpsW.det (det_assign rfl) rfl ?_
    refine sNext ?_
    refine W.keep (F' := [(9, _), (8, _), (23, _), (22, _), (6, _), (5, _), (4, _), (2, _)]) ⟨rfl, rfl, rfl, rfl, rfl, rfl, rfl, rfl, trivial⟩ ?_
    refine sSeq ?_
    refine W.region ?_
    refine OpsW.det (det_move rfl) rfl ?_
    refine OpsW.det (det_half rfl rfl) rfl ?_
    refine OpsW.det (det_assign rfl) rfl ?_
    refine sNext ?_
    refine W.keep (F' := [(7, _), (9, _), (8, _), (23, _), (22, _), (6, _), (5, _), (4, _), (2, _)]) ⟨rfl, rfl, rfl, rfl, rfl, rfl, rfl, rfl, rfl, trivial⟩ ?_
    refine sSeq ?_
    refine sSeq ?_
    refine W.region ?_
    refine OpsW.det (det_move rfl) rfl ?_
    refine OpsW.test (det_eql rfl rfl) rfl (fun hc34 => ?_) (fun hc34 => ?_)
    · skip
      refine OpsW.det (det_move rfl) rfl ?_
      refine OpsW.guard_yes rfl rfl ?_
      refine OpsW.det (det_move rfl) rfl ?_
      refine OpsW.guard_yes rfl rfl ?_
      refine OpsW.det (det_move rfl) rfl ?_
      refine OpsW.guard_yes rfl rfl ?_
      refine OpsW.det (det_addN (b := 1) rfl rfl (by omega)) rfl ?_
      refine OpsW.guard_yes rfl rfl ?_
      refine OpsW.det (det_callv en85 (caps := [.pointer (some ⟨b3, 0, none⟩)]) rfl rfl (fun w hb ho => bit_ok (G' := G') (bv := b3) (i := (i + 1)) hB hl (by omega) (blocks_cons (hb _ (List.mem_append_right _ (List.Mem.tail _ (List.Mem.head _)))) ho.blocks))) rfl ?_
      refine OpsW.guard_yes rfl rfl ?_
      refine OpsW.det (det_eql rfl rfl) rfl ?_
      refine OpsW.det (det_pick rfl rfl) rfl ?_
      refine sNext ?_
      refine W.keep (F' := [(41, _), (7, _), (9, _), (23, _), (22, _), (6, _), (5, _), (4, _), (2, _)]) ⟨rfl, rfl, rfl, rfl, rfl, rfl, rfl, rfl, rfl, trivial⟩ ?_
      refine W.cond rfl (fun hc41 => ?_) (fun hc41 => ?_)
      · skip
        refine W.region ?_
        refine OpsW.det (det_assign rfl) rfl ?_
        refine OpsW.det (det_assign rfl) rfl ?_
        refine sNext ?_
        refine W.keep (F' := [(7, _), (9, _), (23, _), (22, _), (6, _), (5, _), (4, _), (2, _)]) ⟨rfl, rfl, rfl, rfl, rfl, rfl, rfl, rfl, trivial⟩ ?_
        refine W.region ?_
        refine OpsW.det (det_move rfl) rfl ?_
        refine OpsW.det (det_move rfl) rfl ?_
        refine OpsW.det (det_and rfl rfl) rfl ?_
        refine OpsW.det (det_move rfl) rfl ?_
        refine OpsW.det ((det_mul rfl rfl).to (v := .int .i64 (dg l i)) (dig_m hc34 hc41)) rfl ?_
        refine OpsW.fresh (fr_buildSlice rfl slice76) rfl fun b47 => ?_
        refine OpsW.perm (H' := hp ++ ((b47, blk [.int .i64 (dg l i)] 3) :: [(b4, blk (cellsP (0, 0)) 48), (b3, blk [.slice ad l.length cap] 22), (b2, blk (cellsP p) 48)])) List.perm_middle ?_
        refine OpsW.append (dd := 48) ty76 rfl hsl rfl (.inl (List.mem_append_right _ (List.Mem.head _))) rfl (fun j u h => by simpa using h) rfl (by show i + 1 ≤ 9223372036854775807; omega) (by show (i + 1) * 8 ≤ 140737488355328; omega) rfl fun v' hp' hsl' => ?_
        refine OpsW.det (det_assign rfl) rfl ?_
        refine sLast ?_
        refine bNext ?_
        refine W.keep (F' := [(5, _), (7, _), (23, _), (22, _), (6, _), (4, _), (2, _)]) ⟨rfl, rfl, rfl, rfl, rfl, rfl, rfl, trivial⟩ ?_
        refine W.region ?_
        refine OpsW.det (det_addN (b := 1) rfl rfl (by omega)) rfl ?_
        refine OpsW.det (det_move rfl) rfl ?_
        refine sLast ?_
        have ho := ov_m hc34 hc41
        exact rEnd (i + 1, v', hp') ⟨hlt, by rw [digs_succ]; exact hsl'⟩ ⟨rfl, rfl, by rw [← ho]; rfl, rfl, rfl, rfl, rfl, trivial⟩ (List.Sublist.append_left (List.Sublist.cons _ (List.Sublist.refl _)) _) (step_lt hlt)
      · skip
        refine sSkip ?_
        refine W.region ?_
        refine OpsW.det (det_move rfl) rfl ?_
        refine OpsW.det (det_move rfl) rfl ?_
        refine OpsW.det (det_and rfl rfl) rfl ?_
        refine OpsW.det (det_move rfl) rfl ?_
        refine OpsW.det ((det_mul rfl rfl).to (v := .int .i64 (dg l i)) (dig_1 hc34 hc41)) rfl ?_
        refine OpsW.fresh (fr_buildSlice rfl slice76) rfl fun b47 => ?_
        refine OpsW.perm (H' := hp ++ ((b47, blk [.int .i64 (dg l i)] 3) :: [(b4, blk (cellsP (0, 0)) 48), (b3, blk [.slice ad l.length cap] 22), (b2, blk (cellsP p) 48)])) List.perm_middle ?_
        refine OpsW.append (dd := 48) ty76 rfl hsl rfl (.inl (List.mem_append_right _ (List.Mem.head _))) rfl (fun j u h => by simpa using h) rfl (by show i + 1 ≤ 9223372036854775807; omega) (by show (i + 1) * 8 ≤ 140737488355328; omega) rfl fun v' hp' hsl' => ?_
        refine OpsW.det (det_assign rfl) rfl ?_
        refine sLast ?_
        refine bNext ?_
        refine W.keep (F' := [(5, _), (7, _), (23, _), (22, _), (6, _), (4, _), (2, _)]) ⟨rfl, rfl, rfl, rfl, rfl, rfl, rfl, trivial⟩ ?_
        refine W.region ?_
        refine OpsW.det (det_addN (b := 1) rfl rfl (by omega)) rfl ?_
        refine OpsW.det (det_move rfl) rfl ?_
        refine sLast ?_
        have ho := ov_1 hc41
        exact rEnd (i + 1, v', hp') ⟨hlt, by rw [digs_succ]; exact hsl'⟩ ⟨rfl, rfl, by rw [← ho]; rfl, rfl, rfl, rfl, rfl, trivial⟩ (List.Sublist.append_left (List.Sublist.cons _ (List.Sublist.refl _)) _) (step_lt hlt)
    · skip
      refine OpsW.det (det_move rfl) rfl ?_
      refine OpsW.guard_no rfl rfl rfl ?_
      refine OpsW.guard_no rfl rfl rfl ?_
      refine OpsW.guard_no rfl rfl rfl ?_
      refine OpsW.guard_no rfl rfl rfl ?_
      refine OpsW.guard_no rfl rfl rfl ?_
      refine OpsW.det (det_pick rfl rfl) rfl ?_
      refine sNext ?_
      refine W.keep (F' := [(41, _), (7, _), (9, _), (23, _), (22, _), (6, _), (5, _), (4, _), (2, _)]) ⟨rfl, rfl, rfl, rfl, rfl, rfl, rfl, rfl, rfl, trivial⟩ ?_
      refine W.cond_false rfl ?_
      refine sSkip ?_
      refine W.region ?_
      refine OpsW.det (det_move rfl) rfl ?_
      refine OpsW.det (det_move rfl) rfl ?_
      refine OpsW.det (det_and rfl rfl) rfl ?_
      refine OpsW.det (det_move rfl) rfl ?_
      refine OpsW.det ((det_mul rfl rfl).to (v := .int .i64 (dg l i)) (dig_n hc34)) rfl ?_
      refine OpsW.fresh (fr_buildSlice rfl slice76) rfl fun b47 => ?_
      refine OpsW.perm (H' := hp ++ ((b47, blk [.int .i64 (dg l i)] 3) :: [(b4, blk (cellsP (0, 0)) 48), (b3, blk [.slice ad l.length cap] 22), (b2, blk (cellsP p) 48)])) List.perm_middle ?_
      refine OpsW.append (dd := 48) ty76 rfl hsl rfl (.inl (List.mem_append_right _ (List.Mem.head _))) rfl (fun j u h => by simpa using h) rfl (by show i + 1 ≤ 9223372036854775807; omega) (by show (i + 1) * 8 ≤ 140737488355328; omega) rfl fun v' hp' hsl' => ?_
      refine OpsW.det (det_assign rfl) rfl ?_
      refine sLast ?_
      refine bNext ?_
      refine W.keep (F' := [(5, _), (7, _), (23, _), (22, _), (6, _), (4, _), (2, _)]) ⟨rfl, rfl, rfl, rfl, rfl, rfl, rfl, trivial⟩ ?_
      refine W.region ?_
      refine OpsW.det (det_addN (b := 1) rfl rfl (by omega)) rfl ?_
      refine OpsW.det (det_move rfl) rfl ?_
      refine sLast ?_
      have ho := ov_n hc34
      exact rEnd (i + 1, v', hp') ⟨hlt, by rw [digs_succ]; exact hsl'⟩ ⟨rfl, rfl, by rw [← ho]; rfl, rfl, rfl, rfl, rfl, trivial⟩ (List.Sublist.append_left (List.Sublist.cons _ (List.Sublist.refl _)) _) (step_lt hlt)
  · skip
    have hiN : i = 8 * l.length + 1 := by have h := hc24; simp only [decide_eq_false_iff_not] at h; omega
    subst hiN
    obtain ⟨pd, rfl, rfl, hpp⟩ := isSl_at hsl (Nat.succ_pos _)
    refine W.norm (F' := _) (H' := [(_, _), (_, _), (_, _), (_, _)]) rfl rfl ?_
    refine sExit ?_
    refine xLoop ?_
    refine xHere ?_
    refine W.keep (F' := [(5, _), (4, _), (2, _)]) ⟨rfl, rfl, rfl, trivial⟩ ?_
    refine sSeq ?_
    refine W.region ?_
    refine OpsW.fresh (fr_alloc z112r) rfl fun b10 => ?_
    refine sNext ?_
    refine sSeq ?_
    refine W.region ?_
    refine OpsW.det (det_loadW48 rfl (List.Mem.tail _ (List.Mem.tail _ (List.Mem.tail _ (List.Mem.tail _ (List.Mem.head _)))))) rfl ?_
    refine OpsW.det (det_call en46 rfl (fun w hb ho => PNeg_ok (fun p hp => ho.look (List.mem_append_right _ hp)))) rfl ?_
    refine OpsW.fresh (fr_alloc z48r) rfl fun b11 => ?_
    refine OpsW.storeW48 rfl rfl (Upd.here) ?_
    refine sNext ?_
    refine W.keep (F' := [(11, _), (10, _), (5, _), (4, _), (2, _)]) ⟨rfl, rfl, rfl, rfl, rfl, trivial⟩ ?_
    refine sSeq ?_
    refine sSeq ?_
    refine W.region ?_
    refine OpsW.det (det_move rfl) rfl ?_
    refine OpsW.det (det_len u76 rfl) rfl ?_
    refine OpsW.det (det_subZ (c := ((8 * l.length + 1 : Nat) : Int) - 1) rfl rfl (by omega) (by omega)) rfl ?_
    refine OpsW.det (det_assign rfl) rfl ?_
    refine sNext ?_
    refine W.keep (F' := [(12, _), (11, _), (10, _), (5, _), (4, _), (2, _)]) ⟨rfl, rfl, rfl, rfl, rfl, rfl, trivial⟩ ?_
    refine sBlock ?_
    have hjl : jl l p (8 * l.length + 1 - (8 * l.length + 1)) = (0, 0, 0) := by rw [Nat.sub_self]; rfl
    refine sLoop (σ := Nat) (fun k => [(12, .int .i64 (((k : Nat) : Int) - 1)), (11, .pointer (some ⟨b11, 0, none⟩)), (10, .pointer (some ⟨b10, 0, none⟩)), (5, .slice (some ⟨pd.1, 0, none⟩) (8 * l.length + 1) pd.2.1), (4, .pointer (some ⟨b4, 0, none⟩)), (2, .pointer (some ⟨b2, 0, none⟩))]) (fun k => [(b11, blk (cellsP (pneg p)) 48), (b10, blk (cellsJ (jl l p (8 * l.length + 1 - k))) 112), (pd.1, blk (digs l (8 * l.length + 1) ++ pd.2.2) 3), (b4, blk (cellsP (0, 0)) 48), (b3, blk [.slice ad l.length cap] 22), (b2, blk (cellsP p) 48)]) (fun k => k ≤ 8 * l.length + 1) (fun k => k) (8 * l.length + 1) (Nat.le_refl _) ⟨rfl, rfl, rfl, rfl, rfl, rfl, trivial⟩ (by rw [hjl]; exact List.Sublist.refl _) ?_
    intro k hk
    refine sSeq ?_
    refine sSeq ?_
    refine W.region ?_
    refine OpsW.det (det_move rfl) rfl ?_
    refine OpsW.det (det_geq rfl rfl) rfl ?_
    refine sNext ?_
    refine W.keep (F' := [(56, _), (12, _), (11, _), (10, _), (5, _), (4, _), (2, _)]) ⟨rfl, rfl, rfl, rfl, rfl, rfl, rfl, trivial⟩ ?_
    refine W.cond rfl (fun hc56 => ?_) (fun hc56 => ?_)
    · skip
      obtain ⟨k, rfl⟩ : ∃ j, k = j + 1 := ⟨k - 1, by have h := hc56; simp only [decide_eq_true_eq] at h; omega⟩
      refine W.norm (F' := [(56, _), (12, .int .i64 (k : Nat)), (11, _), (10, _), (5, _), (4, _), (2, _)]) (H' := [(_, _), (_, _), (_, _), (_, _), (_, _), (_, _)]) (by rw [show (((k + 1 : Nat) : Int) - 1) = ((k : Nat) : Int) by omega]) rfl ?_
      refine sSkip ?_
      refine sSeq ?_
      refine sBlock ?_
      refine sSeq ?_
      refine W.region ?_
      refine OpsW.det (det_loadW112 rfl (List.Mem.tail _ (List.Mem.head _))) rfl ?_
      refine OpsW.det (det_call en86 rfl (fun w hb ho => jdbl_ok (fun p hp => ho.look (List.mem_append_right _ hp)))) rfl ?_
      refine OpsW.storeW112 rfl rfl (Upd.there (Upd.here)) ?_
      refine sNext ?_
      refine W.keep (F' := [(12, _), (11, _), (10, _), (5, _), (4, _), (2, _)]) ⟨rfl, rfl, rfl, rfl, rfl, rfl, trivial⟩ ?_
      refine sSeq ?_
      refine W.region ?_
      refine OpsW.det (det_move rfl) rfl ?_
      refine OpsW.det (det_move rfl) rfl ?_
      refine OpsW.det (det_indexAddr_sl u76 sz3 rfl rfl ⟨by omega, by omega⟩) rfl ?_
      refine OpsW.det (det_loadC ty3 rfl (List.Mem.tail _ (List.Mem.tail _ (List.Mem.head _))) (digs_at (i := k) (n := 8 * l.length + 1) (by omega) (by omega))) rfl ?_
      refine sNext ?_
      refine W.keep (F' := [(64, _), (12, _), (11, _), (10, _), (5, _), (4, _), (2, _)]) ⟨rfl, rfl, rfl, rfl, rfl, rfl, rfl, trivial⟩ ?_
      refine sBlock ?_
      refine sSeq ?_
      refine W.region ?_
      refine OpsW.det (det_eql rfl rfl) rfl ?_
      refine OpsW.det (det_assign rfl) rfl ?_
      refine sNext ?_
      refine W.keep (F' := [(65, _), (64, _), (12, _), (11, _), (10, _), (5, _), (4, _), (2, _)]) ⟨rfl, rfl, rfl, rfl, rfl, rfl, rfl, rfl, trivial⟩ ?_
      refine W.cond rfl (fun hc65 => ?_) (fun hc65 => ?_)
      · skip
        refine W.region ?_
        refine OpsW.det (det_loadW112 rfl (List.Mem.tail _ (List.Mem.head _))) rfl ?_
        refine OpsW.det (det_loadW48 rfl (List.Mem.tail _ (List.Mem.tail _ (List.Mem.tail _ (List.Mem.tail _ (List.Mem.tail _ (List.Mem.head _))))))) rfl ?_
        refine OpsW.det (det_call en87 rfl (fun w hb ho => jadd_ok (fun p hp => ho.look (List.mem_append_right _ hp)))) rfl ?_
        refine OpsW.storeW112 rfl rfl (Upd.there (Upd.here)) ?_
        refine sLast ?_
        refine bLast ?_
        refine bNext ?_
        refine W.keep (F' := [(12, _), (11, _), (10, _), (5, _), (4, _), (2, _)]) ⟨rfl, rfl, rfl, rfl, rfl, rfl, trivial⟩ ?_
        refine W.region ?_
        refine OpsW.det (det_move rfl) rfl ?_
        refine OpsW.det (det_subZ (c := ((k : Nat) : Int) - 1) rfl rfl (by omega) (by omega)) rfl ?_
        refine OpsW.det (det_assign rfl) rfl ?_
        refine sLast ?_
        exact rEnd k (Nat.le_of_succ_le hk) ⟨rfl, rfl, rfl, rfl, rfl, rfl, trivial⟩ (by rw [jl_one hk hc65]; exact List.Sublist.refl _) (Nat.lt_succ_self _)
      · skip
        refine sSeq ?_
        refine W.region ?_
        refine OpsW.det (det_eql rfl rfl) rfl ?_
        refine OpsW.det (det_assign rfl) rfl ?_
        refine sNext ?_
        refine W.keep (F' := [(70, _), (12, _), (11, _), (10, _), (5, _), (4, _), (2, _)]) ⟨rfl, rfl, rfl, rfl, rfl, rfl, rfl, trivial⟩ ?_
        refine W.cond rfl (fun hc70 => ?_) (fun hc70 => ?_)
        · skip
          refine W.region ?_
          refine OpsW.det (det_loadW112 rfl (List.Mem.tail _ (List.Mem.head _))) rfl ?_
          refine OpsW.det (det_loadW48 rfl (List.Mem.head _)) rfl ?_
          refine OpsW.det (det_call en87 rfl (fun w hb ho => jadd_ok (fun p hp => ho.look (List.mem_append_right _ hp)))) rfl ?_
          refine OpsW.storeW112 rfl rfl (Upd.there (Upd.here)) ?_
          refine sLast ?_
          refine bLast ?_
          refine bNext ?_
          refine W.keep (F' := [(12, _), (11, _), (10, _), (5, _), (4, _), (2, _)]) ⟨rfl, rfl, rfl, rfl, rfl, rfl, trivial⟩ ?_
          refine W.region ?_
          refine OpsW.det (det_move rfl) rfl ?_
          refine OpsW.det (det_subZ (c := ((k : Nat) : Int) - 1) rfl rfl (by omega) (by omega)) rfl ?_
          refine OpsW.det (det_assign rfl) rfl ?_
          refine sLast ?_
          exact rEnd k (Nat.le_of_succ_le hk) ⟨rfl, rfl, rfl, rfl, rfl, rfl, trivial⟩ (by rw [jl_neg hk hc65 hc70]; exact List.Sublist.refl _) (Nat.lt_succ_self _)
        · skip
          refine sSkip0 ?_
          refine bLast ?_
          refine bNext ?_
          refine W.keep (F' := [(12, _), (11, _), (10, _), (5, _), (4, _), (2, _)]) ⟨rfl, rfl, rfl, rfl, rfl, rfl, trivial⟩ ?_
          refine W.region ?_
          refine OpsW.det (det_move rfl) rfl ?_
          refine OpsW.det (det_subZ (c := ((k : Nat) : Int) - 1) rfl rfl (by omega) (by omega)) rfl ?_
          refine OpsW.det (det_assign rfl) rfl ?_
          refine sLast ?_
          exact rEnd k (Nat.le_of_succ_le hk) ⟨rfl, rfl, rfl, rfl, rfl, rfl, trivial⟩ (by rw [jl_nil hk hc65 hc70]; exact List.Sublist.refl _) (Nat.lt_succ_self _)
    · skip
      have hk0 : k = 0 := by have h := hc56; simp only [decide_eq_false_iff_not] at h; omega
      subst hk0
      refine sExit ?_
      refine xLoop ?_
      refine xHere ?_
      refine W.keep (F' := [(10, _), (4, _)]) ⟨rfl, rfl, trivial⟩ ?_
      refine sSeq ?_
      refine W.region ?_
      refine OpsW.det (det_loadW112 rfl (List.Mem.tail _ (List.Mem.head _))) rfl ?_
      refine OpsW.det (det_call en88 rfl (fun w hb ho => point_ok (fun p hp => ho.look (List.mem_append_right _ hp)))) rfl ?_
      refine OpsW.storeW48 rfl rfl (Upd.there (Upd.there (Upd.there (Upd.here)))) ?_
      refine sNext ?_
      refine W.keep (F' := [(4, _)]) ⟨rfl, trivial⟩ ?_
      refine sRet ?_
      exact done1 Tryd.results64 (rv_cellA ty48 rfl (List.Mem.tail _ (List.Mem.tail _ (List.Mem.tail _ (List.Mem.head _)))) rfl) rfl

end Go.Cw

/- The second group: products with scalars, sums of lists: the walks. Conditions: as many as memory has. -/
namespace Go.Cw
open Go Go.Vm Go.RowKit Go.Proofs Go.Cu
attribute [local irreducible] W OpsW Det Fresh New Writes Vm.Pure Makes Changes ExternTo BuildTo ZeroTo FieldTo IndexTo BinTo SliceTo Vm.Enters
set_option linter.unusedVariables false
set_option linter.unusedSimpArgs false
variable {T : Nat → TypeId × Nat × Nat}

/-- So many times. -/
def pmul (p : Pt) (x : Fs) : Pt := times (blist x) p
/-- v is a slice of the points l, which lie in a block of G'. -/
structure Pts (G' : Hp) (v : Value) (l : List Pt) : Prop where
  shape : ∃ ad cap, v = .slice ad l.length cap
  at_ : ∀ i (h : i < l.length), ∃ (b o cap : Nat) (cs : List Value) (e : TypeId) (fr : Nat × Nat), v = .slice (some ⟨b, o, none⟩) l.length cap ∧ (b, Obj.cells cs.toArray e fr) ∈ G' ∧ cut (o + i * 24) 24 cs = some (cellsP l[i])
def jsum (l : List Pt) : Jac := l.foldl (fun j p => jadd j p) (0, 0, 0)
def psum (l : List Pt) : Pt := point (jsum l)
theorem jsum_step {l : List Pt} {i : Nat} (h : i < l.length) : jsum (l.take (i + 1)) = jadd (jsum (l.take i)) l[i] := by
  unfold jsum
  rw [List.take_succ_eq_append_getElem h, List.foldl_append]
  rfl
theorem off_i {o i : Nat} : o + ((i : Nat) : Int).toNat * 24 = o + i * 24 := by simp
theorem pmul_def (p : Pt) (x : Fs) : encP (times (blist x) p) = encP (pmul p x) := rfl

theorem en64 : Vm.Enters Tryd.prog 64 := Vm.Enters.of fun _ _ => by kernel_rfl
theorem PMul_ok {p : Pt} {x : Fs} {w : World} (hG : Blocks (GH T) w)  : Vm.Pure Tryd.prog 44 #[encP p, encR x] w (encP (pmul p x)) := by
  refine pure_of_W (n := 11) (args := [encP p, encR x]) Tryd.func44 rfl Tryd.ntmps44 (Nat.le_of_ble_eq_true rfl) hG ?_
  refine sStart ?_
  refine sSeq ?_
  refine W.region ?_
  refine OpsW.fresh (fr_boxW48 rfl) rfl fun b2 => ?_
  refine OpsW.fresh (fr_boxW67 rfl) rfl fun b3 => ?_
  refine OpsW.fresh (fr_alloc z48r) rfl fun b4 => ?_
  refine sNext ?_
  refine W.keep (F' := [(4, _), (3, _), (2, _)]) ⟨rfl, rfl, rfl, trivial⟩ ?_
  refine sSeq ?_
  refine W.region ?_
  refine OpsW.det (det_loadW67 rfl (List.Mem.tail _ (List.Mem.head _))) rfl ?_
  refine OpsW.det (det_call en75 rfl (fun w hb ho => Cu.RBytes_ok ho.blocks)) rfl ?_
  refine OpsW.fresh (fr_alloc z101) rfl fun b5 => ?_
  refine OpsW.store sz101 rfl rfl rfl (rbytes_len x) (rbytes_one x) (Upd.here) (splice_52 x) ?_
  refine sNext ?_
  refine W.keep (F' := [(5, _), (4, _), (2, _)]) ⟨rfl, rfl, rfl, trivial⟩ ?_
  refine sSeq ?_
  refine W.draw mixed 3 [[], [], [0, 1], [0, 1, 2]] (cl_lt (by decide)) ?_
  refine HeadR.start (cl_lt (by decide)) ?_
  refine HeadR.det rfl (fun β hβ => (det_loadW48 rfl (List.Mem.tail _ (List.Mem.tail _ (List.Mem.tail _ (List.Mem.head _)))))) ?_
  refine HeadR.det rfl (fun β hβ => ((det_sliceArr (lo := none) (hi := none) (l := 0) (h := 32) u101 sz5 rfl rfl rfl (by decide) (by decide)).to (v := .slice (some ⟨b5, 0, none⟩) 32 32) rfl)) ?_
  refine HeadR.det rfl (fun β hβ => (det_call en64 rfl (fun w hb ho => Vm.Pure.same (Times_ok (G' := [(b5, blk (rbytes x) 101)]) (p := p) (blist_Bs x b5) (by rw [blist_len]; decide) (blocks_cons (hb _ (List.Mem.head _)) ho.blocks)) (pmul_def p x)))) ?_
  refine HeadR.done ⟨by kernel_rfl, fun β hβ => ?_⟩
  refine OpsW.norm (F' := [(8, _), (9, _), (10, _), (5, _), (4, _), (2, _)]) (H' := [(_, _), (_, _), (_, _), (_, _)]) rfl rfl ?_
  refine OpsW.storeW48 rfl rfl (Upd.there (Upd.here)) ?_
  refine sNext ?_
  refine W.keep (F' := [(4, _)]) ⟨rfl, trivial⟩ ?_
  refine sRet ?_
  exact done1 Tryd.results44 (rv_cellA ty48 rfl (List.Mem.tail _ (List.Mem.head _)) rfl) rfl

end Go.Cw

/- The second group: the generator, the turn, and which points are in the group: the walks. Conditions: none. -/
namespace Go.Cw
open Go Go.Vm Go.RowKit Go.Proofs Go.Cu
attribute [local irreducible] W OpsW Det Fresh New Writes Vm.Pure Makes Changes ExternTo BuildTo ZeroTo FieldTo IndexTo BinTo SliceTo Vm.Enters
set_option linter.unusedVariables false
set_option linter.unusedSimpArgs false
variable {T : Nat → TypeId × Nat × Nat}

def gX : List Nat := [19, 224, 43, 96, 82, 113, 159, 96, 125, 172, 211, 160, 136, 39, 79, 101, 89, 107, 208, 208, 153, 32, 182, 26, 181, 218, 97, 187, 220, 127, 80, 73, 51, 76, 241, 18, 19, 148, 93, 87, 229, 172, 125, 5, 93, 4, 43, 126, 2, 74, 162, 178, 240, 143, 10, 145, 38, 8, 5, 39, 45, 197, 16, 81, 198, 228, 122, 212, 250, 64, 59, 2, 180, 81, 11, 100, 122, 227, 209, 119, 11, 172, 3, 38, 168, 5, 187, 239, 212, 128, 86, 200, 193, 33, 189, 184]
def gY : List Nat := [6, 6, 196, 160, 46, 167, 52, 204, 50, 172, 210, 176, 43, 194, 139, 153, 203, 62, 40, 126, 133, 167, 99, 175, 38, 116, 146, 171, 87, 46, 153, 171, 63, 55, 13, 39, 92, 236, 29, 161, 170, 169, 7, 95, 240, 95, 121, 190, 12, 229, 213, 39, 114, 125, 110, 17, 140, 201, 205, 198, 218, 46, 53, 26, 173, 253, 155, 170, 140, 189, 211, 167, 109, 66, 154, 105, 81, 96, 209, 44, 146, 58, 201, 204, 59, 172, 162, 137, 225, 147, 84, 134, 8, 184, 40, 1]
def tX : List Nat := [26, 1, 17, 234, 57, 127, 230, 153, 236, 2, 64, 134, 99, 212, 222, 133, 170, 13, 133, 125, 137, 117, 154, 212, 137, 125, 41, 101, 15, 184, 95, 155, 64, 148, 39, 235, 79, 73, 255, 253, 139, 253, 0, 0, 0, 0, 170, 173, 0, 0, 0, 0, 0, 0, 0, 0, 0, 0, 0, 0, 0, 0, 0, 0, 0, 0, 0, 0, 0, 0, 0, 0, 0, 0, 0, 0, 0, 0, 0, 0, 0, 0, 0, 0, 0, 0, 0, 0, 0, 0, 0, 0, 0, 0, 0, 0]
def tY : List Nat := [6, 175, 14, 4, 55, 255, 64, 11, 104, 49, 227, 109, 107, 209, 127, 254, 72, 57, 93, 171, 194, 211, 67, 94, 119, 247, 110, 23, 0, 146, 65, 197, 238, 103, 153, 47, 114, 236, 5, 244, 200, 16, 132, 251, 237, 227, 204, 9, 19, 82, 3, 230, 1, 128, 166, 142, 226, 233, 196, 72, 215, 122, 44, 217, 28, 61, 237, 217, 48, 177, 207, 96, 239, 57, 100, 137, 246, 30, 180, 94, 48, 68, 102, 207, 62, 103, 250, 10, 241, 238, 123, 4, 18, 27, 222, 162]
def gen : Pt := ((read2 gX).1, (read2 gY).1)
def turnx : Fq2 := (read2 tX).1
def turny : Fq2 := (read2 tY).1
def turnP (p : Pt) : Pt := (conj2 p.1 * turnx, conj2 p.2 * turny)
def inB (p : Pt) : Bool := decide (turnP p = pneg (times sizeL p))
theorem gX_sl : SliceTo Tryd.prog 22 96 [(0, .int .u8 19), (1, .int .u8 224), (2, .int .u8 43), (3, .int .u8 96), (4, .int .u8 82), (5, .int .u8 113), (6, .int .u8 159), (7, .int .u8 96), (8, .int .u8 125), (9, .int .u8 172), (10, .int .u8 211), (11, .int .u8 160), (12, .int .u8 136), (13, .int .u8 39), (14, .int .u8 79), (15, .int .u8 101), (16, .int .u8 89), (17, .int .u8 107), (18, .int .u8 208), (19, .int .u8 208), (20, .int .u8 153), (21, .int .u8 32), (22, .int .u8 182), (23, .int .u8 26), (24, .int .u8 181), (25, .int .u8 218), (26, .int .u8 97), (27, .int .u8 187), (28, .int .u8 220), (29, .int .u8 127), (30, .int .u8 80), (31, .int .u8 73), (32, .int .u8 51), (33, .int .u8 76), (34, .int .u8 241), (35, .int .u8 18), (36, .int .u8 19), (37, .int .u8 148), (38, .int .u8 93), (39, .int .u8 87), (40, .int .u8 229), (41, .int .u8 172), (42, .int .u8 125), (43, .int .u8 5), (44, .int .u8 93), (45, .int .u8 4), (46, .int .u8 43), (47, .int .u8 126), (48, .int .u8 2), (49, .int .u8 74), (50, .int .u8 162), (51, .int .u8 178), (52, .int .u8 240), (53, .int .u8 143), (54, .int .u8 10), (55, .int .u8 145), (56, .int .u8 38), (57, .int .u8 8), (58, .int .u8 5), (59, .int .u8 39), (60, .int .u8 45), (61, .int .u8 197), (62, .int .u8 16), (63, .int .u8 81), (64, .int .u8 198), (65, .int .u8 228), (66, .int .u8 122), (67, .int .u8 212), (68, .int .u8 250), (69, .int .u8 64), (70, .int .u8 59), (71, .int .u8 2), (72, .int .u8 180), (73, .int .u8 81), (74, .int .u8 11), (75, .int .u8 100), (76, .int .u8 122), (77, .int .u8 227), (78, .int .u8 209), (79, .int .u8 119), (80, .int .u8 11), (81, .int .u8 172), (82, .int .u8 3), (83, .int .u8 38), (84, .int .u8 168), (85, .int .u8 5), (86, .int .u8 187), (87, .int .u8 239), (88, .int .u8 212), (89, .int .u8 128), (90, .int .u8 86), (91, .int .u8 200), (92, .int .u8 193), (93, .int .u8 33), (94, .int .u8 189), (95, .int .u8 184)] (bcells gX ++ []) 5 := SliceTo.of fun _ => by kernel_rfl
theorem gX_small : ∀ c ∈ gX, c < 256 := by decide
theorem gY_sl : SliceTo Tryd.prog 22 96 [(0, .int .u8 6), (1, .int .u8 6), (2, .int .u8 196), (3, .int .u8 160), (4, .int .u8 46), (5, .int .u8 167), (6, .int .u8 52), (7, .int .u8 204), (8, .int .u8 50), (9, .int .u8 172), (10, .int .u8 210), (11, .int .u8 176), (12, .int .u8 43), (13, .int .u8 194), (14, .int .u8 139), (15, .int .u8 153), (16, .int .u8 203), (17, .int .u8 62), (18, .int .u8 40), (19, .int .u8 126), (20, .int .u8 133), (21, .int .u8 167), (22, .int .u8 99), (23, .int .u8 175), (24, .int .u8 38), (25, .int .u8 116), (26, .int .u8 146), (27, .int .u8 171), (28, .int .u8 87), (29, .int .u8 46), (30, .int .u8 153), (31, .int .u8 171), (32, .int .u8 63), (33, .int .u8 55), (34, .int .u8 13), (35, .int .u8 39), (36, .int .u8 92), (37, .int .u8 236), (38, .int .u8 29), (39, .int .u8 161), (40, .int .u8 170), (41, .int .u8 169), (42, .int .u8 7), (43, .int .u8 95), (44, .int .u8 240), (45, .int .u8 95), (46, .int .u8 121), (47, .int .u8 190), (48, .int .u8 12), (49, .int .u8 229), (50, .int .u8 213), (51, .int .u8 39), (52, .int .u8 114), (53, .int .u8 125), (54, .int .u8 110), (55, .int .u8 17), (56, .int .u8 140), (57, .int .u8 201), (58, .int .u8 205), (59, .int .u8 198), (60, .int .u8 218), (61, .int .u8 46), (62, .int .u8 53), (63, .int .u8 26), (64, .int .u8 173), (65, .int .u8 253), (66, .int .u8 155), (67, .int .u8 170), (68, .int .u8 140), (69, .int .u8 189), (70, .int .u8 211), (71, .int .u8 167), (72, .int .u8 109), (73, .int .u8 66), (74, .int .u8 154), (75, .int .u8 105), (76, .int .u8 81), (77, .int .u8 96), (78, .int .u8 209), (79, .int .u8 44), (80, .int .u8 146), (81, .int .u8 58), (82, .int .u8 201), (83, .int .u8 204), (84, .int .u8 59), (85, .int .u8 172), (86, .int .u8 162), (87, .int .u8 137), (88, .int .u8 225), (89, .int .u8 147), (90, .int .u8 84), (91, .int .u8 134), (92, .int .u8 8), (93, .int .u8 184), (94, .int .u8 40), (95, .int .u8 1)] (bcells gY ++ []) 5 := SliceTo.of fun _ => by kernel_rfl
theorem gY_small : ∀ c ∈ gY, c < 256 := by decide
theorem tX_sl : SliceTo Tryd.prog 22 96 [(0, .int .u8 26), (1, .int .u8 1), (2, .int .u8 17), (3, .int .u8 234), (4, .int .u8 57), (5, .int .u8 127), (6, .int .u8 230), (7, .int .u8 153), (8, .int .u8 236), (9, .int .u8 2), (10, .int .u8 64), (11, .int .u8 134), (12, .int .u8 99), (13, .int .u8 212), (14, .int .u8 222), (15, .int .u8 133), (16, .int .u8 170), (17, .int .u8 13), (18, .int .u8 133), (19, .int .u8 125), (20, .int .u8 137), (21, .int .u8 117), (22, .int .u8 154), (23, .int .u8 212), (24, .int .u8 137), (25, .int .u8 125), (26, .int .u8 41), (27, .int .u8 101), (28, .int .u8 15), (29, .int .u8 184), (30, .int .u8 95), (31, .int .u8 155), (32, .int .u8 64), (33, .int .u8 148), (34, .int .u8 39), (35, .int .u8 235), (36, .int .u8 79), (37, .int .u8 73), (38, .int .u8 255), (39, .int .u8 253), (40, .int .u8 139), (41, .int .u8 253), (42, .int .u8 0), (43, .int .u8 0), (44, .int .u8 0), (45, .int .u8 0), (46, .int .u8 170), (47, .int .u8 173), (48, .int .u8 0), (49, .int .u8 0), (50, .int .u8 0), (51, .int .u8 0), (52, .int .u8 0), (53, .int .u8 0), (54, .int .u8 0), (55, .int .u8 0), (56, .int .u8 0), (57, .int .u8 0), (58, .int .u8 0), (59, .int .u8 0), (60, .int .u8 0), (61, .int .u8 0), (62, .int .u8 0), (63, .int .u8 0), (64, .int .u8 0), (65, .int .u8 0), (66, .int .u8 0), (67, .int .u8 0), (68, .int .u8 0), (69, .int .u8 0), (70, .int .u8 0), (71, .int .u8 0), (72, .int .u8 0), (73, .int .u8 0), (74, .int .u8 0), (75, .int .u8 0), (76, .int .u8 0), (77, .int .u8 0), (78, .int .u8 0), (79, .int .u8 0), (80, .int .u8 0), (81, .int .u8 0), (82, .int .u8 0), (83, .int .u8 0), (84, .int .u8 0), (85, .int .u8 0), (86, .int .u8 0), (87, .int .u8 0), (88, .int .u8 0), (89, .int .u8 0), (90, .int .u8 0), (91, .int .u8 0), (92, .int .u8 0), (93, .int .u8 0), (94, .int .u8 0), (95, .int .u8 0)] (bcells tX ++ []) 5 := SliceTo.of fun _ => by kernel_rfl
theorem tX_small : ∀ c ∈ tX, c < 256 := by decide
theorem tY_sl : SliceTo Tryd.prog 22 96 [(0, .int .u8 6), (1, .int .u8 175), (2, .int .u8 14), (3, .int .u8 4), (4, .int .u8 55), (5, .int .u8 255), (6, .int .u8 64), (7, .int .u8 11), (8, .int .u8 104), (9, .int .u8 49), (10, .int .u8 227), (11, .int .u8 109), (12, .int .u8 107), (13, .int .u8 209), (14, .int .u8 127), (15, .int .u8 254), (16, .int .u8 72), (17, .int .u8 57), (18, .int .u8 93), (19, .int .u8 171), (20, .int .u8 194), (21, .int .u8 211), (22, .int .u8 67), (23, .int .u8 94), (24, .int .u8 119), (25, .int .u8 247), (26, .int .u8 110), (27, .int .u8 23), (28, .int .u8 0), (29, .int .u8 146), (30, .int .u8 65), (31, .int .u8 197), (32, .int .u8 238), (33, .int .u8 103), (34, .int .u8 153), (35, .int .u8 47), (36, .int .u8 114), (37, .int .u8 236), (38, .int .u8 5), (39, .int .u8 244), (40, .int .u8 200), (41, .int .u8 16), (42, .int .u8 132), (43, .int .u8 251), (44, .int .u8 237), (45, .int .u8 227), (46, .int .u8 204), (47, .int .u8 9), (48, .int .u8 19), (49, .int .u8 82), (50, .int .u8 3), (51, .int .u8 230), (52, .int .u8 1), (53, .int .u8 128), (54, .int .u8 166), (55, .int .u8 142), (56, .int .u8 226), (57, .int .u8 233), (58, .int .u8 196), (59, .int .u8 72), (60, .int .u8 215), (61, .int .u8 122), (62, .int .u8 44), (63, .int .u8 217), (64, .int .u8 28), (65, .int .u8 61), (66, .int .u8 237), (67, .int .u8 217), (68, .int .u8 48), (69, .int .u8 177), (70, .int .u8 207), (71, .int .u8 96), (72, .int .u8 239), (73, .int .u8 57), (74, .int .u8 100), (75, .int .u8 137), (76, .int .u8 246), (77, .int .u8 30), (78, .int .u8 180), (79, .int .u8 94), (80, .int .u8 48), (81, .int .u8 68), (82, .int .u8 102), (83, .int .u8 207), (84, .int .u8 62), (85, .int .u8 103), (86, .int .u8 250), (87, .int .u8 10), (88, .int .u8 241), (89, .int .u8 238), (90, .int .u8 123), (91, .int .u8 4), (92, .int .u8 18), (93, .int .u8 27), (94, .int .u8 222), (95, .int .u8 162)] (bcells tY ++ []) 5 := SliceTo.of fun _ => by kernel_rfl
theorem tY_small : ∀ c ∈ tY, c < 256 := by decide

theorem en25 : Vm.Enters Tryd.prog 25 := Vm.Enters.of fun _ _ => by kernel_rfl
theorem en63 : Vm.Enters Tryd.prog 63 := Vm.Enters.of fun _ _ => by kernel_rfl
set_option maxRecDepth 100000 in
theorem Gen_ok  {w : World} (hG : Blocks (GH T) w)  : Vm.Pure Tryd.prog 43 #[] w (encP gen) := by
  refine pure_of_W (n := 18) (args := []) Tryd.func43 rfl Tryd.ntmps43 (Nat.le_of_ble_eq_true rfl) hG ?_
  refine sStart ?_
  refine sSeq ?_
  refine W.region ?_
  refine OpsW.fresh (fr_alloc z48r) rfl fun b0 => ?_
  refine sNext ?_
  refine sSeq ?_
  refine W.region ?_
  refine OpsW.fresh (fr_buildSlice rfl gX_sl) rfl fun b6 => ?_
  refine OpsW.det (det_call en25 rfl (fun w hb ho => Read_ok (G' := [(b6, blk (bcells gX ++ []) 5)]) (Bs.of gX_small (Nat.le_refl _)) (blocks_cons (hb _ (List.Mem.head _)) ho.blocks))) rfl ?_
  refine OpsW.det (det_move rfl) rfl ?_
  refine OpsW.det (det_extract rfl rfl) rfl ?_
  refine OpsW.det (det_extract rfl rfl) rfl ?_
  refine OpsW.fresh (fr_alloc z46r) rfl fun b1 => ?_
  refine OpsW.storeW46 rfl rfl (Upd.here) ?_
  refine OpsW.det (det_assign rfl) rfl ?_
  refine sNext ?_
  refine W.keep (F' := [(1, _), (0, _)]) ⟨rfl, rfl, trivial⟩ ?_
  refine sSeq ?_
  refine W.region ?_
  refine OpsW.fresh (fr_buildSlice rfl gY_sl) rfl fun b11 => ?_
  refine OpsW.det (det_call en25 rfl (fun w hb ho => Read_ok (G' := [(b11, blk (bcells gY ++ []) 5)]) (Bs.of gY_small (Nat.le_refl _)) (blocks_cons (hb _ (List.Mem.head _)) ho.blocks))) rfl ?_
  refine OpsW.det (det_move rfl) rfl ?_
  refine OpsW.det (det_extract rfl rfl) rfl ?_
  refine OpsW.det (det_extract rfl rfl) rfl ?_
  refine OpsW.fresh (fr_alloc z46r) rfl fun b3 => ?_
  refine OpsW.storeW46 rfl rfl (Upd.here) ?_
  refine OpsW.det (det_assign rfl) rfl ?_
  refine sNext ?_
  refine W.keep (F' := [(3, _), (1, _), (0, _)]) ⟨rfl, rfl, rfl, trivial⟩ ?_
  refine sSeq ?_
  refine W.region ?_
  refine OpsW.det (det_loadW46 rfl (List.Mem.tail _ (List.Mem.tail _ (List.Mem.head _)))) rfl ?_
  refine OpsW.det (det_loadW46 rfl (List.Mem.head _)) rfl ?_
  refine OpsW.det (det_build rfl bld48) rfl ?_
  refine OpsW.storeW48 rfl rfl (Upd.there (Upd.there (Upd.there (Upd.there (Upd.here))))) ?_
  refine sNext ?_
  refine W.keep (F' := [(0, _)]) ⟨rfl, trivial⟩ ?_
  refine sRet ?_
  exact done1 Tryd.results43 (rv_cellA ty48 rfl (List.Mem.tail _ (List.Mem.tail _ (List.Mem.tail _ (List.Mem.tail _ (List.Mem.head _))))) rfl) rfl
set_option maxRecDepth 100000 in
theorem Pturn_ok {p : Pt} {w : World} (hG : Blocks (GH T) w)  : Vm.Pure Tryd.prog 63 #[encP p] w (encP (turnP p)) := by
  refine pure_of_W (n := 28) (args := [encP p]) Tryd.func63 rfl Tryd.ntmps63 (Nat.le_of_ble_eq_true rfl) hG ?_
  refine sStart ?_
  refine sSeq ?_
  refine W.region ?_
  refine OpsW.fresh (fr_boxW48 rfl) rfl fun b1 => ?_
  refine OpsW.fresh (fr_alloc z48r) rfl fun b2 => ?_
  refine sNext ?_
  refine W.keep (F' := [(2, _), (1, _)]) ⟨rfl, rfl, trivial⟩ ?_
  refine sSeq ?_
  refine W.region ?_
  refine OpsW.fresh (fr_buildSlice rfl tX_sl) rfl fun b8 => ?_
  refine OpsW.det (det_call en25 rfl (fun w hb ho => Read_ok (G' := [(b8, blk (bcells tX ++ []) 5)]) (Bs.of tX_small (Nat.le_refl _)) (blocks_cons (hb _ (List.Mem.head _)) ho.blocks))) rfl ?_
  refine OpsW.det (det_move rfl) rfl ?_
  refine OpsW.det (det_extract rfl rfl) rfl ?_
  refine OpsW.det (det_extract rfl rfl) rfl ?_
  refine OpsW.fresh (fr_alloc z46r) rfl fun b3 => ?_
  refine OpsW.storeW46 rfl rfl (Upd.here) ?_
  refine OpsW.det (det_assign rfl) rfl ?_
  refine sNext ?_
  refine W.keep (F' := [(3, _), (2, _), (1, _)]) ⟨rfl, rfl, rfl, trivial⟩ ?_
  refine sSeq ?_
  refine W.region ?_
  refine OpsW.fresh (fr_buildSlice rfl tY_sl) rfl fun b13 => ?_
  refine OpsW.det (det_call en25 rfl (fun w hb ho => Read_ok (G' := [(b13, blk (bcells tY ++ []) 5)]) (Bs.of tY_small (Nat.le_refl _)) (blocks_cons (hb _ (List.Mem.head _)) ho.blocks))) rfl ?_
  refine OpsW.det (det_move rfl) rfl ?_
  refine OpsW.det (det_extract rfl rfl) rfl ?_
  refine OpsW.det (det_extract rfl rfl) rfl ?_
  refine OpsW.fresh (fr_alloc z46r) rfl fun b5 => ?_
  refine OpsW.storeW46 rfl rfl (Upd.here) ?_
  refine OpsW.det (det_assign rfl) rfl ?_
  refine sNext ?_
  refine W.keep (F' := [(5, _), (3, _), (2, _), (1, _)]) ⟨rfl, rfl, rfl, rfl, trivial⟩ ?_
  refine sSeq ?_
  refine W.draw mixed 11 [[], [0], [0, 1], [], [0, 1, 2, 3], [], [5], [0, 1, 2, 3, 4, 5, 6], [], [0, 1, 2, 3, 4, 5, 6, 7, 8], [0, 1, 2, 3, 4, 5, 6, 7, 8, 9], [0, 1, 2, 3, 4, 5, 6, 7, 8, 9, 10]] (cl_lt (by decide)) ?_
  refine HeadR.start (cl_lt (by decide)) ?_
  refine HeadR.det rfl (fun β hβ => (det_fieldAddr fl48_0 rfl)) ?_
  refine HeadR.det rfl (fun β hβ => (det_loadA ty46 rfl (List.Mem.tail _ (List.Mem.tail _ (List.Mem.tail _ (List.Mem.tail _ (List.Mem.tail _ (List.Mem.head _)))))) rfl)) ?_
  refine HeadR.det rfl (fun β hβ => (det_call en84 rfl (fun w hb ho => Conj_ok ho.blocks))) ?_
  refine HeadR.det rfl (fun β hβ => (det_loadW46 rfl (List.Mem.tail _ (List.Mem.tail _ (List.Mem.head _))))) ?_
  refine HeadR.det rfl (fun β hβ => (det_call en27 rfl (fun w hb ho => Mul_ok ho.blocks))) ?_
  refine HeadR.det rfl (fun β hβ => (det_fieldAddr fl48_1 rfl)) ?_
  refine HeadR.det rfl (fun β hβ => (det_loadA ty46 rfl (List.Mem.tail _ (List.Mem.tail _ (List.Mem.tail _ (List.Mem.tail _ (List.Mem.tail _ (List.Mem.head _)))))) rfl)) ?_
  refine HeadR.det rfl (fun β hβ => (det_call en84 rfl (fun w hb ho => Conj_ok ho.blocks))) ?_
  refine HeadR.det rfl (fun β hβ => (det_loadW46 rfl (List.Mem.head _))) ?_
  refine HeadR.det rfl (fun β hβ => (det_call en27 rfl (fun w hb ho => Mul_ok ho.blocks))) ?_
  refine HeadR.det rfl (fun β hβ => (det_build rfl bld48)) ?_
  refine HeadR.done ⟨by kernel_rfl, fun β hβ => ?_⟩
  refine OpsW.norm (F' := [(17, _), (18, _), (19, _), (20, _), (21, _), (22, _), (23, _), (24, _), (25, _), (26, _), (27, _), (5, _), (3, _), (2, _), (1, _)]) (H' := [(_, _), (_, _), (_, _), (_, _), (_, _), (_, _)]) rfl rfl ?_
  refine OpsW.storeW48 rfl rfl (Upd.there (Upd.there (Upd.there (Upd.there (Upd.here))))) ?_
  refine sNext ?_
  refine W.keep (F' := [(2, _)]) ⟨rfl, trivial⟩ ?_
  refine sRet ?_
  exact done1 Tryd.results63 (rv_cellA ty48 rfl (List.Mem.tail _ (List.Mem.tail _ (List.Mem.tail _ (List.Mem.tail _ (List.Mem.head _))))) rfl) rfl
theorem PIn_ok {p : Pt} {w : World} (hG : Blocks (GH T) w)  : Vm.Pure Tryd.prog 30 #[encP p] w (.bool (inB p)) := by
  refine pure_of_W (n := 10) (args := [encP p]) Tryd.func30 rfl Tryd.ntmps30 (Nat.le_of_ble_eq_true rfl) hG ?_
  refine sStart ?_
  refine sSeq ?_
  refine W.region ?_
  refine OpsW.fresh (fr_boxW48 rfl) rfl fun b1 => ?_
  refine OpsW.det (det_assign rfl) rfl ?_
  refine sNext ?_
  refine W.keep (F' := [(1, _)]) ⟨rfl, trivial⟩ ?_
  refine sSeq ?_
  refine W.draw mixed 8 [[], [0], [], [], [0, 1, 2, 3], [0, 1, 2, 3, 4], [0, 1, 2, 3, 4, 5], [0, 1, 2, 3, 4, 5, 6]] (cl_lt (by decide)) ?_
  refine HeadR.start (cl_lt (by decide)) ?_
  refine HeadR.det rfl (fun β hβ => (det_loadW48 rfl (List.Mem.head _))) ?_
  refine HeadR.det rfl (fun β hβ => (det_call en63 rfl (fun w hb ho => Pturn_ok ho.blocks))) ?_
  refine HeadR.det rfl (fun β hβ => (det_loadW48 rfl (List.Mem.head _))) ?_
  refine HeadR.fresh rfl (fun β hβ => (fr_buildSlice rfl sizeL_sl).new) ?_
  refine HeadR.det rfl (fun β hβ => (det_call en64 rfl (fun w hb ho => Times_ok (G' := [((β 6).1, blk (bcells sizeL ++ []) 5)]) (p := p) (Bs.of sizeL_small (Nat.le_refl _)) (by decide) (blocks_cons (hb _ (List.Mem.head _)) ho.blocks)))) ?_
  refine HeadR.det rfl (fun β hβ => (det_call en46 rfl (fun w hb ho => PNeg_ok ho.blocks))) ?_
  refine HeadR.det rfl (fun β hβ => (det_eql48 rfl rfl)) ?_
  refine HeadR.det rfl (fun β hβ => (det_assign rfl)) ?_
  refine HeadR.done ⟨by kernel_rfl, fun β hβ => ?_⟩
  refine OpsW.norm (F' := [(3, _), (4, _), (5, _), (6, .slice (some ⟨(β 6).1, 0, none⟩) 8 8), (7, _), (8, _), (9, _), (2, _), (1, _)]) (H' := [(_, _), (_, _)]) rfl rfl ?_
  generalize (β 6).1 = b6
  refine sNext ?_
  refine W.keep (F' := [(2, _)]) ⟨rfl, trivial⟩ ?_
  refine sRet ?_
  exact done1 Tryd.results30 (rv_tmp rfl) rfl

end Go.Cw

/- What the rows of the codec's and of the setups' laws give their walks: the listed variables, slices of bytes; and a world for their witnesses. -/
namespace Go.Cu
open Go Go.Vm Go.RowKit Go.Proofs Go.Proofs.YtndonmbemehefaaDoor Go.ChangeShapes Go.WideShapes
set_option linter.unusedVariables false
set_option linter.unusedSimpArgs false
set_option linter.unusedSectionVars false
set_option linter.constructorNameAsVariable false

theorem laid_all {W : World} (h : laidMetH Tryd.prog Rows.codecBackRow.laid W) : ∃ T, Blocks (GH T) W := by
  have h : laidMet Tryd.prog [(_, Lib.tabData .u64 [13402431016077863595, 2210141511517208575, 7435674573564081700, 7239337960414712511, 5412103778470702295, 1873798617647539866]), (_, Lib.tabData .u64 [17644856173732828998, 754043588434789617, 10224657059481499349, 7488229067341005760, 11130996698012816685, 1267921511277847466]), (_, Lib.tabData .u64 [18446744069414584321, 6034159408538082302, 3691218898639771653, 8353516859464449352]), (_, Lib.tabData .u64 [14526898881837571181, 3129137299524312099, 419701826671360399, 524908885293268753])] W := h
  obtain ⟨t2, h2⟩ := laid_block (g := 1) (t := 27) (e := 26) (n := 6) (by kernel_rfl) (by kernel_rfl) (by kernel_rfl) (by kernel_rfl) (by kernel_rfl) (by kernel_rfl) h
  obtain ⟨t1, h1⟩ := laid_block (g := 0) (t := 27) (e := 26) (n := 6) (by kernel_rfl) (by kernel_rfl) (by kernel_rfl) (by kernel_rfl) (by kernel_rfl) (by kernel_rfl) (laid_tail h)
  obtain ⟨t3, h3⟩ := laid_block (g := 3) (t := 65) (e := 26) (n := 4) (by kernel_rfl) (by kernel_rfl) (by kernel_rfl) (by kernel_rfl) (by kernel_rfl) (by kernel_rfl) (laid_tail (laid_tail h))
  obtain ⟨t0, h0⟩ := laid_block (g := 2) (t := 65) (e := 26) (n := 4) (by kernel_rfl) (by kernel_rfl) (by kernel_rfl) (by kernel_rfl) (by kernel_rfl) (by kernel_rfl) (laid_tail (laid_tail (laid_tail h)))
  refine ⟨fun i => match i with | 0 => t0 | 1 => t1 | 2 => t2 | _ => t3, fun p hp => ?_⟩
  simp only [GH, List.mem_cons, List.not_mem_nil, or_false] at hp
  rcases hp with rfl | rfl | rfl | rfl
  · exact h1
  · exact h2
  · exact h0
  · exact h3
theorem cells5 : Tryd.prog.cellsOf 5 = 1 := by kernel_rfl
set_option maxRecDepth 100000 in
/-- A slice of bytes among the arguments. -/
theorem open_Bs {H : Type} {enc : TypeId × Value → H} {W : World} {base : Nat} {v : Value} {d : DataW H} {ps : List MemPlace} (hval : Value.okWide Tryd.prog W .any base 22 v) (h : DataW.Trod enc Tryd.prog W 0 (fun _ => true) true 22 v d ps) :
    ∃ G' l, Bs G' v l ∧ Blocks G' W := by
  rcases open_u8s (P := Tryd.prog) (t := 22) (e := 5) Tryd.underlying22 Tryd.underlying5 cells5 hval h with rfl | ⟨b, o, len, cap, cs, T, fr, zs, rfl, hb, rfl, hlc, hcm, hz, hcell⟩
  · exact ⟨[], [], ⟨⟨none, 0, rfl⟩, fun c hc => (by cases hc), fun hc => (by cases hc)⟩, fun p hp => (by cases hp)⟩
  · refine ⟨[(b, .cells cs.toArray T fr)], zs, ⟨⟨_, _, rfl⟩, hz, fun _ => ⟨b, o, cap, cs, T, fr, rfl, List.mem_singleton.2 rfl, hlc, fun i h => ?_⟩⟩, fun p hp => ?_⟩
    · rw [hcell i zs[i] (List.getElem?_eq_getElem h)]; rfl
    · rw [List.mem_singleton.1 hp]; exact hb
theorem fit_u8 {a : Int} (h : (Lit.int .u8 a).wf = true) : ∃ n : Nat, a = (n : Int) ∧ n < 256 := by
  unfold Lit.wf at h
  simp only [Bool.and_eq_true, decide_eq_true_eq] at h
  have h : 0 ≤ a ∧ a ≤ 255 := h
  exact ⟨a.toNat, by omega, by omega⟩
theorem fit_u16 {a : Int} (h : (Lit.int .u16 a).wf = true) : ∃ n : Nat, a = (n : Int) ∧ n < 65536 := by
  unfold Lit.wf at h
  simp only [Bool.and_eq_true, decide_eq_true_eq] at h
  have h : 0 ≤ a ∧ a ≤ 65535 := h
  exact ⟨a.toNat, by omega, by omega⟩
/-- A world for the witnesses. -/
noncomputable def laidWorld (os : Os) : World :=
  { World.holding Tryd.prog os ⟨#[], #[], []⟩ with heap := (((((World.holding Tryd.prog os ⟨#[], #[], []⟩).heap.modify 0 fun
      | .cells _ t frozen => .cells glo1.toArray t frozen
      | o => o).modify 1 fun
      | .cells _ t frozen => .cells glo2.toArray t frozen
      | o => o).modify 2 fun
      | .cells _ t frozen => .cells glo0.toArray t frozen
      | o => o).modify 3 fun
      | .cells _ t frozen => .cells glo3.toArray t frozen
      | o => o) }
/-- What the rows' readings ask of the program's types. -/
theorem laidOut : laidOutB Tryd.prog = true := by kernel_rfl
theorem own : ownKnob Tryd.prog.godebug = none := by kernel_rfl
end Go.Cu
