/-
  The disk's steps, what bars a call: the walks. Conditions: those of a disk.
-/
import Derived.Test.YtajedkhfliondaaDw1
namespace Go.Dk
open Go Go.Vm Go.RowKit Go.Proofs Go.Cu
attribute [local irreducible] W OpsW Det Fresh New Writes Vm.Pure Makes Changes ExternTo BuildTo ZeroTo FieldTo IndexTo BinTo SliceTo Vm.Enters
set_option linter.unusedVariables false
set_option linter.unusedSimpArgs false

/-- A step: whether the power holds, the steps, the fuse, whether it is off. -/
def stp (steps fuse : Nat) (down : Bool) : Bool × Nat × Nat × Bool := if fuse = 1 then (false, steps, 0, true) else (true, steps + 1, fuse - 1, down)
theorem step_eq (A : AD) : step A = ({ A with steps := (stp A.steps A.fuse A.down).2.1, fuse := (stp A.steps A.fuse A.down).2.2.1, down := (stp A.steps A.fuse A.down).2.2.2 }, (stp A.steps A.fuse A.down).1) := by
  unfold step stp
  by_cases h : A.fuse = 1 <;> simp [h]
theorem look_two {s : Nm} {fs : List FE} : ∃ ad n c sf, (mfind s (fs.map FE.me)).getD (fval none 0 0 0) = fval ad n c sf ∧ (mfind s (fs.map FE.me)).isSome = (fnd s (fs.map FE.fl)).isSome := by
  cases h : fnd s (fs.map FE.fl) with
  | none => exact ⟨none, 0, 0, 0, by rw [(fnd_none h).2]; rfl, by rw [(fnd_none h).2]; rfl⟩
  | some a =>
    obtain ⟨l1, f, l2, rfl, rfl, h3, h4⟩ := fnd_some h
    exact ⟨f.ad, f.data.length, f.cap, f.safe, by rw [mfind_at h3 h4]; rfl, by rw [mfind_at h3 h4]; rfl⟩
theorem max_sub {fuse : Nat} (h : fuse ≤ 9223372036854775807) : max (0 : Int) (IntKind.i64.wrap ((fuse : Nat) - (1 : Int))) = ((fuse - 1 : Nat) : Int) := by
  rw [wrap_i64 (by omega)]; omega

theorem en34 : Vm.Enters Try.prog 34 := Vm.Enters.of fun _ _ => by kernel_rfl
theorem en37 : Vm.Enters Try.prog 37 := Vm.Enters.of fun _ _ => by kernel_rfl
theorem fl66_1 : TyF Try.prog 66 1 1 1 := ⟨⟨3, by kernel_rfl, by kernel_rfl⟩, by decide⟩
theorem fl66_2 : TyF Try.prog 66 2 2 1 := ⟨⟨3, by kernel_rfl, by kernel_rfl⟩, by decide⟩
theorem fl66_3 : TyF Try.prog 66 3 3 1 := ⟨⟨3, by kernel_rfl, by kernel_rfl⟩, by decide⟩
theorem fl66_4 : TyF Try.prog 66 4 4 1 := ⟨⟨4, by kernel_rfl, by kernel_rfl⟩, by decide⟩
theorem sz3 : sizeIn Try.prog 3 = some 1 := by kernel_rfl
theorem sz4 : sizeIn Try.prog 4 = some 1 := by kernel_rfl
theorem ty4 : TyC Try.prog 4 := ⟨by kernel_rfl, by kernel_rfl⟩
theorem u23 : Try.prog.underlying 23 = some (.pointer 66) := by kernel_rfl
theorem step_ok {bD bm room steps fuse : Nat} {down : Bool} (hs : steps < 9223372036854775807) (hf : fuse ≤ 9223372036854775807) {w : World} (hG : Blocks [(bD, dblk bm room steps fuse down)] w)  : Changes Try.prog 34 #[dptr bD] w [(bD, dblk bm room steps fuse down)] (fun v H' => v = .bool (stp steps fuse down).1 ∧ H' = [(bD, dblk bm room (stp steps fuse down).2.1 (stp steps fuse down).2.2.1 (stp steps fuse down).2.2.2)]) := by
  have hD : (([(bD, dblk bm room steps fuse down)] : Hp).map (·.1)).Nodup := by simp
  refine changes_of_W (G := []) (n := 30) (args := [dptr bD]) Try.func34 rfl Try.ntmps34 (Nat.le_of_ble_eq_true rfl) (fun p hp => by cases hp) hG hD ?_
  refine sStart ?_
  refine sSeq ?_
  refine W.region ?_
  refine OpsW.det (det_assign rfl) rfl ?_
  refine sNext ?_
  refine W.keep (F' := [(0, _)]) ⟨rfl, trivial⟩ ?_
  refine sSeq ?_
  refine sSeq ?_
  refine W.region ?_
  refine OpsW.det (det_move rfl) rfl ?_
  refine OpsW.det (det_nilCheck rfl) rfl ?_
  refine OpsW.det (det_fieldAddr fl66_3 rfl) rfl ?_
  refine OpsW.det (det_loadC ty3 rfl (List.Mem.head _) rfl) rfl ?_
  refine OpsW.det (det_eql (a := (fuse : Int)) (b := 1) rfl rfl) rfl ?_
  refine sNext ?_
  refine W.keep (F' := [(7, _), (0, _)]) ⟨rfl, rfl, trivial⟩ ?_
  refine W.cond rfl (fun hc7 => ?_) (fun hc7 => ?_)
  · skip
    have hf1 : fuse = 1 := by have h := hc7; simp only [beq_iff_eq] at h; omega
    refine sSeq ?_
    refine W.region ?_
    refine OpsW.det (det_move rfl) rfl ?_
    refine OpsW.det (det_move rfl) rfl ?_
    refine OpsW.det (det_nilCheck rfl) rfl ?_
    refine OpsW.det (det_fieldAddr fl66_3 rfl) rfl ?_
    refine OpsW.store sz3 rfl rfl rfl rfl rfl (Upd.here) rfl ?_
    refine OpsW.det (det_nilCheck rfl) rfl ?_
    refine OpsW.det (det_fieldAddr fl66_4 rfl) rfl ?_
    refine OpsW.store sz4 rfl rfl rfl rfl rfl (Upd.here) rfl ?_
    refine sNext ?_
    refine W.keep (F' := []) trivial ?_
    refine sSeq ?_
    refine W.region ?_
    refine OpsW.det (det_assign rfl) rfl ?_
    refine sNext ?_
    refine sRet ?_
    exact done1 Try.results34 (rv_tmp rfl) ⟨by simp [stp, hf1], by simp [stp, hf1]⟩
  · skip
    have hf1 : ¬ fuse = 1 := by have h := hc7; simp only [beq_eq_false_iff_ne, ne_eq] at h; omega
    refine sSkip ?_
    refine sSeq ?_
    refine W.region ?_
    refine OpsW.det (det_move rfl) rfl ?_
    refine OpsW.det (det_move rfl) rfl ?_
    refine OpsW.det (det_nilCheck rfl) rfl ?_
    refine OpsW.det (det_fieldAddr fl66_3 rfl) rfl ?_
    refine OpsW.det (det_loadC ty3 rfl (List.Mem.head _) rfl) rfl ?_
    refine OpsW.det (det_sub rfl rfl) rfl ?_
    refine OpsW.det (Det.to (det_max rfl rfl) (congrArg (Value.int .i64) (max_sub hf))) rfl ?_
    refine OpsW.det (det_nilCheck rfl) rfl ?_
    refine OpsW.det (det_fieldAddr fl66_3 rfl) rfl ?_
    refine OpsW.store sz3 rfl rfl rfl rfl rfl (Upd.here) rfl ?_
    refine sNext ?_
    refine W.keep (F' := [(0, _)]) ⟨rfl, trivial⟩ ?_
    refine sSeq ?_
    refine W.region ?_
    refine OpsW.det (det_move rfl) rfl ?_
    refine OpsW.det (det_nilCheck rfl) rfl ?_
    refine OpsW.det (det_fieldAddr fl66_2 rfl) rfl ?_
    refine OpsW.det (det_loadC ty3 rfl (List.Mem.head _) rfl) rfl ?_
    refine OpsW.det (det_addN (b := 1) rfl rfl (by omega)) rfl ?_
    refine OpsW.det (det_nilCheck rfl) rfl ?_
    refine OpsW.det (det_fieldAddr fl66_2 rfl) rfl ?_
    refine OpsW.store sz3 rfl rfl rfl rfl rfl (Upd.here) rfl ?_
    refine sNext ?_
    refine W.keep (F' := []) trivial ?_
    refine sSeq ?_
    refine W.region ?_
    refine OpsW.det (det_assign rfl) rfl ?_
    refine sNext ?_
    refine sRet ?_
    exact done1 Try.results34 (rv_tmp rfl) ⟨by simp [stp, hf1], by simp [stp, hf1]⟩
theorem done_ok {bD bm room steps fuse : Nat} {down : Bool} (hs : steps < 9223372036854775807) (hf : fuse ≤ 9223372036854775807) {w : World} (hG : Blocks [(bD, dblk bm room steps fuse down)] w)  : Changes Try.prog 32 #[dptr bD] w [(bD, dblk bm room steps fuse down)] (fun v H' => v = .int .i64 (if (stp steps fuse down).1 = true then 0 else 2) ∧ H' = [(bD, dblk bm room (stp steps fuse down).2.1 (stp steps fuse down).2.2.1 (stp steps fuse down).2.2.2)]) := by
  have hD : (([(bD, dblk bm room steps fuse down)] : Hp).map (·.1)).Nodup := by simp
  refine changes_of_W (G := []) (n := 6) (args := [dptr bD]) Try.func32 rfl Try.ntmps32 (Nat.le_of_ble_eq_true rfl) (fun p hp => by cases hp) hG hD ?_
  refine sStart ?_
  refine sSeq ?_
  refine W.region ?_
  refine OpsW.det (det_assign rfl) rfl ?_
  refine sNext ?_
  refine W.keep (F' := [(0, _)]) ⟨rfl, trivial⟩ ?_
  refine sSeq ?_
  refine sSeq ?_
  refine W.region ?_
  refine OpsW.det (det_move rfl) rfl ?_
  refine OpsW.change (Hf := [(_, _)]) en34 rfl (fun w hb hbn ho hbm => step_ok hs hf (blocks_sub (List.Sublist.refl _) hb)) rfl (fun v4 H4 hS4 => ?_)
  obtain ⟨rfl, rfl⟩ := hS4
  refine OpsW.norm (H' := [(_, _)]) rfl rfl ?_
  refine OpsW.det (det_not rfl) rfl ?_
  refine sNext ?_
  refine W.keep (F' := [(5, _)]) ⟨rfl, trivial⟩ ?_
  refine W.cond rfl (fun hc5 => ?_) (fun hc5 => ?_)
  · skip
    have h1 : (stp steps fuse down).1 = false := by have h := hc5; simpa using h
    refine sSeq ?_
    refine W.region ?_
    refine OpsW.det (det_assign rfl) rfl ?_
    refine sNext ?_
    refine W.keep (F' := [(2, _)]) ⟨rfl, trivial⟩ ?_
    refine sRet ?_
    exact done1 Try.results32 (rv_tmp rfl) ⟨by simp [h1], rfl⟩
  · skip
    have h1 : (stp steps fuse down).1 = true := by have h := hc5; simpa using h
    refine sSkip ?_
    refine sSeq ?_
    refine W.region ?_
    refine OpsW.det (det_assign rfl) rfl ?_
    refine sNext ?_
    refine W.keep (F' := [(2, _)]) ⟨rfl, trivial⟩ ?_
    refine sRet ?_
    exact done1 Try.results32 (rv_tmp rfl) ⟨by simp [h1], rfl⟩
theorem barsT_ok {bD bm clk room steps fuse : Nat} {down : Bool} {fs : List FE} {s : Nm} (hs : s.length ≤ 9223372036854775807) {w : World} (hG : Blocks ((bD, dblk bm room steps fuse down) :: (bm, mobj (fs.map FE.me) clk) :: fhp fs) w)  : Vm.Pure Try.prog 31 #[dptr bD, sv s, .bool true] w (.int .i64 (bars ⟨fs.map FE.fl, room, steps, fuse, down⟩ s true : Nat)) := by
  obtain ⟨ad, n, c, sf, hv, hb⟩ := look_two (s := s) (fs := fs)
  refine pure_of_W (n := 35) (args := [dptr bD, sv s, .bool true]) Try.func31 rfl Try.ntmps31 (Nat.le_of_ble_eq_true rfl) hG ?_
  refine sStart ?_
  refine sSeq ?_
  refine W.region ?_
  refine OpsW.det (det_assign rfl) rfl ?_
  refine sNext ?_
  refine W.keep (F' := [(0, _), (1, _), (2, _)]) ⟨rfl, rfl, rfl, trivial⟩ ?_
  refine sSeq ?_
  refine sSeq ?_
  refine W.region ?_
  refine OpsW.det (det_move rfl) rfl ?_
  refine OpsW.det (det_nilPtr u23 rfl rfl) rfl ?_
  refine sNext ?_
  refine W.keep (F' := [(10, _), (0, _), (1, _), (2, _)]) ⟨rfl, rfl, rfl, rfl, trivial⟩ ?_
  refine W.cond_false rfl ?_
  refine sSkip ?_
  refine sSeq ?_
  refine W.region ?_
  refine OpsW.det (det_move rfl) rfl ?_
  refine OpsW.det (det_nilCheck rfl) rfl ?_
  refine OpsW.det (det_fieldAddr fl66_0 rfl) rfl ?_
  refine OpsW.det (det_loadC_ro ty64 rfl (List.Mem.head _) rfl) rfl ?_
  refine OpsW.det (det_move rfl) rfl ?_
  refine OpsW.det (Det.to (v := .tuple [fval ad n c sf, .bool (fnd s (fs.map FE.fl)).isSome].toArray) (det_lookupOk tm64 rfl rfl (.inr (List.Mem.tail _ (List.Mem.head _)))) (by rw [hv, hb])) rfl ?_
  refine OpsW.det (det_move rfl) rfl ?_
  refine OpsW.det (det_extract rfl rfl) rfl ?_
  refine OpsW.det (det_extract rfl rfl) rfl ?_
  refine OpsW.fresh (fr_alloc z69) rfl fun b7 => ?_
  refine OpsW.store sz69 rfl rfl rfl rfl rfl (Upd.here) rfl ?_
  refine OpsW.det (det_assign rfl) rfl ?_
  refine sNext ?_
  refine W.keep (F' := [(8, _), (0, _), (1, _), (2, _)]) ⟨rfl, rfl, rfl, rfl, trivial⟩ ?_
  refine sSeq ?_
  refine sBlock ?_
  refine sSeq ?_
  refine W.region ?_
  refine OpsW.det (det_move rfl) rfl ?_
  refine OpsW.det (det_nilCheck rfl) rfl ?_
  refine OpsW.det (det_fieldAddr fl66_4 rfl) rfl ?_
  refine OpsW.det (det_loadC_ro ty4 rfl (List.Mem.head _) rfl) rfl ?_
  refine OpsW.det (det_assign rfl) rfl ?_
  refine sNext ?_
  refine W.keep (F' := [(20, _), (8, _), (1, _), (2, _)]) ⟨rfl, rfl, rfl, rfl, trivial⟩ ?_
  refine W.cond rfl (fun hc20 => ?_) (fun hc20 => ?_)
  · skip
    refine sSeq ?_
    refine W.region ?_
    refine OpsW.det (det_assign rfl) rfl ?_
    refine sNext ?_
    refine W.keep (F' := [(6, _)]) ⟨rfl, trivial⟩ ?_
    refine sRet ?_
    refine retBlk ?_
    exact done1 Try.results31 (rv_tmp rfl) (by simp [bars, show down = true from hc20])
  · skip
    refine sSeq ?_
    refine W.region ?_
    refine OpsW.det (det_move rfl) rfl ?_
    refine OpsW.det (det_call en37 rfl (fun w hb ho => Right_ok hs nob)) rfl ?_
    refine OpsW.det (det_not rfl) rfl ?_
    refine OpsW.det (det_assign rfl) rfl ?_
    refine sNext ?_
    refine W.keep (F' := [(25, _), (8, _), (2, _)]) ⟨rfl, rfl, rfl, trivial⟩ ?_
    refine W.cond rfl (fun hc25 => ?_) (fun hc25 => ?_)
    · skip
      refine sSeq ?_
      refine W.region ?_
      refine OpsW.det (det_assign rfl) rfl ?_
      refine sNext ?_
      refine W.keep (F' := [(6, _)]) ⟨rfl, trivial⟩ ?_
      refine sRet ?_
      refine retBlk ?_
      exact done1 Try.results31 (rv_tmp rfl) (by simp [bars, show down = false from hc20, show right s = false by have h := hc25; simpa using h])
    · skip
      refine sSeq ?_
      refine W.region ?_
      refine OpsW.det (det_move rfl) rfl ?_
      refine OpsW.det (det_move rfl) rfl ?_
      refine OpsW.guard_yes rfl rfl ?_
      refine OpsW.det (det_move rfl) rfl ?_
      refine OpsW.guard_yes rfl rfl ?_
      refine OpsW.det (det_not rfl) rfl ?_
      refine OpsW.det (det_pick rfl rfl) rfl ?_
      refine OpsW.det (det_assign rfl) rfl ?_
      refine sNext ?_
      refine W.keep (F' := [(29, _)]) ⟨rfl, trivial⟩ ?_
      refine W.cond rfl (fun hc29 => ?_) (fun hc29 => ?_)
      · skip
        refine sSeq ?_
        refine W.region ?_
        refine OpsW.det (det_assign rfl) rfl ?_
        refine sNext ?_
        refine W.keep (F' := [(6, _)]) ⟨rfl, trivial⟩ ?_
        refine sRet ?_
        refine retBlk ?_
        exact done1 Try.results31 (rv_tmp rfl) (by have h1 := hc29; simp [bars, show down = false from hc20, show right s = true by have h := hc25; simpa using h] at h1 ⊢; simp [h1])
      · skip
        refine sSkip0 ?_
        refine bNext ?_
        refine W.keep (F' := []) trivial ?_
        refine sSeq ?_
        refine W.region ?_
        refine OpsW.det (det_assign rfl) rfl ?_
        refine sNext ?_
        refine sRet ?_
        exact done1 Try.results31 (rv_tmp rfl) (by have h1 := hc29; simp [bars, show down = false from hc20, show right s = true by have h := hc25; simpa using h] at h1 ⊢; rw [if_neg (fun h2 => by rw [h2] at h1; simp at h1)]; rfl)
theorem barsF_ok {bD bm clk room steps fuse : Nat} {down : Bool} {fs : List FE} {s : Nm} (hs : s.length ≤ 9223372036854775807) {w : World} (hG : Blocks ((bD, dblk bm room steps fuse down) :: (bm, mobj (fs.map FE.me) clk) :: fhp fs) w)  : Vm.Pure Try.prog 31 #[dptr bD, sv s, .bool false] w (.int .i64 (bars ⟨fs.map FE.fl, room, steps, fuse, down⟩ s false : Nat)) := by
  obtain ⟨ad, n, c, sf, hv, hb⟩ := look_two (s := s) (fs := fs)
  refine pure_of_W (n := 35) (args := [dptr bD, sv s, .bool false]) Try.func31 rfl Try.ntmps31 (Nat.le_of_ble_eq_true rfl) hG ?_
  refine sStart ?_
  refine sSeq ?_
  refine W.region ?_
  refine OpsW.det (det_assign rfl) rfl ?_
  refine sNext ?_
  refine W.keep (F' := [(0, _), (1, _), (2, _)]) ⟨rfl, rfl, rfl, trivial⟩ ?_
  refine sSeq ?_
  refine sSeq ?_
  refine W.region ?_
  refine OpsW.det (det_move rfl) rfl ?_
  refine OpsW.det (det_nilPtr u23 rfl rfl) rfl ?_
  refine sNext ?_
  refine W.keep (F' := [(10, _), (0, _), (1, _), (2, _)]) ⟨rfl, rfl, rfl, rfl, trivial⟩ ?_
  refine W.cond_false rfl ?_
  refine sSkip ?_
  refine sSeq ?_
  refine W.region ?_
  refine OpsW.det (det_move rfl) rfl ?_
  refine OpsW.det (det_nilCheck rfl) rfl ?_
  refine OpsW.det (det_fieldAddr fl66_0 rfl) rfl ?_
  refine OpsW.det (det_loadC_ro ty64 rfl (List.Mem.head _) rfl) rfl ?_
  refine OpsW.det (det_move rfl) rfl ?_
  refine OpsW.det (Det.to (v := .tuple [fval ad n c sf, .bool (fnd s (fs.map FE.fl)).isSome].toArray) (det_lookupOk tm64 rfl rfl (.inr (List.Mem.tail _ (List.Mem.head _)))) (by rw [hv, hb])) rfl ?_
  refine OpsW.det (det_move rfl) rfl ?_
  refine OpsW.det (det_extract rfl rfl) rfl ?_
  refine OpsW.det (det_extract rfl rfl) rfl ?_
  refine OpsW.fresh (fr_alloc z69) rfl fun b7 => ?_
  refine OpsW.store sz69 rfl rfl rfl rfl rfl (Upd.here) rfl ?_
  refine OpsW.det (det_assign rfl) rfl ?_
  refine sNext ?_
  refine W.keep (F' := [(8, _), (0, _), (1, _), (2, _)]) ⟨rfl, rfl, rfl, rfl, trivial⟩ ?_
  refine sSeq ?_
  refine sBlock ?_
  refine sSeq ?_
  refine W.region ?_
  refine OpsW.det (det_move rfl) rfl ?_
  refine OpsW.det (det_nilCheck rfl) rfl ?_
  refine OpsW.det (det_fieldAddr fl66_4 rfl) rfl ?_
  refine OpsW.det (det_loadC_ro ty4 rfl (List.Mem.head _) rfl) rfl ?_
  refine OpsW.det (det_assign rfl) rfl ?_
  refine sNext ?_
  refine W.keep (F' := [(20, _), (8, _), (1, _), (2, _)]) ⟨rfl, rfl, rfl, rfl, trivial⟩ ?_
  refine W.cond rfl (fun hc20 => ?_) (fun hc20 => ?_)
  · skip
    refine sSeq ?_
    refine W.region ?_
    refine OpsW.det (det_assign rfl) rfl ?_
    refine sNext ?_
    refine W.keep (F' := [(6, _)]) ⟨rfl, trivial⟩ ?_
    refine sRet ?_
    refine retBlk ?_
    exact done1 Try.results31 (rv_tmp rfl) (by simp [bars, show down = true from hc20])
  · skip
    refine sSeq ?_
    refine W.region ?_
    refine OpsW.det (det_move rfl) rfl ?_
    refine OpsW.det (det_call en37 rfl (fun w hb ho => Right_ok hs nob)) rfl ?_
    refine OpsW.det (det_not rfl) rfl ?_
    refine OpsW.det (det_assign rfl) rfl ?_
    refine sNext ?_
    refine W.keep (F' := [(25, _), (8, _), (2, _)]) ⟨rfl, rfl, rfl, trivial⟩ ?_
    refine W.cond rfl (fun hc25 => ?_) (fun hc25 => ?_)
    · skip
      refine sSeq ?_
      refine W.region ?_
      refine OpsW.det (det_assign rfl) rfl ?_
      refine sNext ?_
      refine W.keep (F' := [(6, _)]) ⟨rfl, trivial⟩ ?_
      refine sRet ?_
      refine retBlk ?_
      exact done1 Try.results31 (rv_tmp rfl) (by simp [bars, show down = false from hc20, show right s = false by have h := hc25; simpa using h])
    · skip
      refine sSeq ?_
      refine W.region ?_
      refine OpsW.det (det_move rfl) rfl ?_
      refine OpsW.det (det_move rfl) rfl ?_
      refine OpsW.guard_no rfl rfl rfl ?_
      refine OpsW.guard_no rfl rfl rfl ?_
      refine OpsW.det (det_pick rfl rfl) rfl ?_
      refine OpsW.det (det_assign rfl) rfl ?_
      refine sNext ?_
      refine W.keep (F' := [(29, _)]) ⟨rfl, trivial⟩ ?_
      refine W.cond_false rfl ?_
      refine sSkip0 ?_
      refine bNext ?_
      refine W.keep (F' := []) trivial ?_
      refine sSeq ?_
      refine W.region ?_
      refine OpsW.det (det_assign rfl) rfl ?_
      refine sNext ?_
      refine sRet ?_
      exact done1 Try.results31 (rv_tmp rfl) (by simp [bars, show down = false from hc20, show right s = true by have h := hc25; simpa using h])
theorem barsN_ok {s : Nm} {b : Bool} {w : World} (hG : Blocks [] w)  : Vm.Pure Try.prog 31 #[.pointer none, sv s, .bool b] w (.int .i64 1) := by
  refine pure_of_W (n := 35) (args := [.pointer none, sv s, .bool b]) Try.func31 rfl Try.ntmps31 (Nat.le_of_ble_eq_true rfl) hG ?_
  refine sStart ?_
  refine sSeq ?_
  refine W.region ?_
  refine OpsW.det (det_assign rfl) rfl ?_
  refine sNext ?_
  refine W.keep (F' := [(0, _), (1, _), (2, _)]) ⟨rfl, rfl, rfl, trivial⟩ ?_
  refine sSeq ?_
  refine sSeq ?_
  refine W.region ?_
  refine OpsW.det (det_move rfl) rfl ?_
  refine OpsW.det (det_nilPtr u23 rfl rfl) rfl ?_
  refine sNext ?_
  refine W.keep (F' := [(10, _), (0, _), (1, _), (2, _)]) ⟨rfl, rfl, rfl, rfl, trivial⟩ ?_
  refine W.cond_true rfl ?_
  refine sSeq ?_
  refine W.region ?_
  refine OpsW.det (det_assign rfl) rfl ?_
  refine sNext ?_
  refine W.keep (F' := [(6, _)]) ⟨rfl, trivial⟩ ?_
  refine sRet ?_
  exact done1 Try.results31 (rv_tmp rfl) rfl
theorem Free_ok {bD bm clk room steps fuse : Nat} {down : Bool} {fs : List FE} (hnd : (fs.map (·.born)).Nodup) (hold : ∀ f ∈ fs, f.born < clk) (ht : total (fs.map FE.fl) ≤ room) (hr : room ≤ 4194304) {w : World} (hG : Blocks ((bD, dblk bm room steps fuse down) :: (bm, mobj (fs.map FE.me) clk) :: fhp fs) w)  : Vm.Pure Try.prog 17 #[dptr bD] w (.int .i64 (room - total (fs.map FE.fl) : Nat)) := by
  refine pure_of_W (n := 12) (args := [dptr bD]) Try.func17 rfl Try.ntmps17 (Nat.le_of_ble_eq_true rfl) hG ?_
  refine sStart ?_
  refine sSeq ?_
  refine W.region ?_
  refine OpsW.det (det_assign rfl) rfl ?_
  refine sNext ?_
  refine W.keep (F' := [(0, _)]) ⟨rfl, trivial⟩ ?_
  refine sSeq ?_
  refine sSeq ?_
  refine W.region ?_
  refine OpsW.det (det_move rfl) rfl ?_
  refine OpsW.det (det_nilPtr u23 rfl rfl) rfl ?_
  refine sNext ?_
  refine W.keep (F' := [(4, _), (0, _)]) ⟨rfl, rfl, trivial⟩ ?_
  refine W.cond_false rfl ?_
  refine sSkip ?_
  refine sSeq ?_
  refine W.draw mixed 8 [[], [0], [0, 1], [0, 1, 2], [], [4], [0, 1, 2, 3, 4, 5], [0, 1, 2, 3, 4, 5, 6]] (cl_lt (by decide)) ?_
  refine HeadR.start (cl_lt (by decide)) ?_
  refine HeadR.det rfl (fun β hβ => (det_move rfl)) ?_
  refine HeadR.det rfl (fun β hβ => (det_nilCheck rfl)) ?_
  refine HeadR.det rfl (fun β hβ => (det_fieldAddr fl66_1 rfl)) ?_
  refine HeadR.det rfl (fun β hβ => (det_loadC_ro ty3 rfl (List.Mem.head _) rfl)) ?_
  refine HeadR.det rfl (fun β hβ => (det_move rfl)) ?_
  refine HeadR.det rfl (fun β hβ => (det_call en33 rfl (fun w hb ho => safe_ok hnd hold (by omega) ho.blocks))) ?_
  refine HeadR.det rfl (fun β hβ => (Det.to (det_subZ (c := ((room - total (fs.map FE.fl) : Nat) : Int)) rfl rfl (by omega) (by omega)) rfl)) ?_
  refine HeadR.det rfl (fun β hβ => (det_assign rfl)) ?_
  refine HeadR.done ⟨by kernel_rfl, fun β hβ => ?_⟩
  refine OpsW.norm (F' := [(5, _), (6, _), (7, _), (8, _), (9, _), (10, _), (11, _), (2, _), (4, _), (0, _)]) (H' := []) rfl rfl ?_
  refine sNext ?_
  refine W.keep (F' := [(2, _)]) ⟨rfl, trivial⟩ ?_
  refine sRet ?_
  exact done1 Try.results17 (rv_tmp rfl) rfl
theorem FreeN_ok  {w : World} (hG : Blocks [] w)  : Vm.Pure Try.prog 17 #[.pointer none] w (.int .i64 0) := by
  refine pure_of_W (n := 12) (args := [.pointer none]) Try.func17 rfl Try.ntmps17 (Nat.le_of_ble_eq_true rfl) hG ?_
  refine sStart ?_
  refine sSeq ?_
  refine W.region ?_
  refine OpsW.det (det_assign rfl) rfl ?_
  refine sNext ?_
  refine W.keep (F' := [(0, _)]) ⟨rfl, trivial⟩ ?_
  refine sSeq ?_
  refine sSeq ?_
  refine W.region ?_
  refine OpsW.det (det_move rfl) rfl ?_
  refine OpsW.det (det_nilPtr u23 rfl rfl) rfl ?_
  refine sNext ?_
  refine W.keep (F' := [(4, _), (0, _)]) ⟨rfl, rfl, trivial⟩ ?_
  refine W.cond_true rfl ?_
  refine sSeq ?_
  refine W.region ?_
  refine OpsW.det (det_assign rfl) rfl ?_
  refine sNext ?_
  refine W.keep (F' := [(2, _)]) ⟨rfl, trivial⟩ ?_
  refine sRet ?_
  exact done1 Try.results17 (rv_tmp rfl) rfl
theorem Steps_ok {bD bm clk room steps fuse : Nat} {down : Bool} {fs : List FE} {w : World} (hG : Blocks ((bD, dblk bm room steps fuse down) :: (bm, mobj (fs.map FE.me) clk) :: fhp fs) w)  : Vm.Pure Try.prog 23 #[dptr bD] w (.int .i64 (steps : Nat)) := by
  refine pure_of_W (n := 9) (args := [dptr bD]) Try.func23 rfl Try.ntmps23 (Nat.le_of_ble_eq_true rfl) hG ?_
  refine sStart ?_
  refine sSeq ?_
  refine W.region ?_
  refine OpsW.det (det_assign rfl) rfl ?_
  refine sNext ?_
  refine W.keep (F' := [(0, _)]) ⟨rfl, trivial⟩ ?_
  refine sSeq ?_
  refine sSeq ?_
  refine W.region ?_
  refine OpsW.det (det_move rfl) rfl ?_
  refine OpsW.det (det_nilPtr u23 rfl rfl) rfl ?_
  refine sNext ?_
  refine W.keep (F' := [(4, _), (0, _)]) ⟨rfl, rfl, trivial⟩ ?_
  refine W.cond_false rfl ?_
  refine sSkip ?_
  refine sSeq ?_
  refine W.region ?_
  refine OpsW.det (det_move rfl) rfl ?_
  refine OpsW.det (det_nilCheck rfl) rfl ?_
  refine OpsW.det (det_fieldAddr fl66_2 rfl) rfl ?_
  refine OpsW.det (det_loadC_ro ty3 rfl (List.Mem.head _) rfl) rfl ?_
  refine OpsW.det (det_assign rfl) rfl ?_
  refine sNext ?_
  refine W.keep (F' := [(2, _)]) ⟨rfl, trivial⟩ ?_
  refine sRet ?_
  exact done1 Try.results23 (rv_tmp rfl) rfl
theorem StepsN_ok  {w : World} (hG : Blocks [] w)  : Vm.Pure Try.prog 23 #[.pointer none] w (.int .i64 0) := by
  refine pure_of_W (n := 9) (args := [.pointer none]) Try.func23 rfl Try.ntmps23 (Nat.le_of_ble_eq_true rfl) hG ?_
  refine sStart ?_
  refine sSeq ?_
  refine W.region ?_
  refine OpsW.det (det_assign rfl) rfl ?_
  refine sNext ?_
  refine W.keep (F' := [(0, _)]) ⟨rfl, trivial⟩ ?_
  refine sSeq ?_
  refine sSeq ?_
  refine W.region ?_
  refine OpsW.det (det_move rfl) rfl ?_
  refine OpsW.det (det_nilPtr u23 rfl rfl) rfl ?_
  refine sNext ?_
  refine W.keep (F' := [(4, _), (0, _)]) ⟨rfl, rfl, trivial⟩ ?_
  refine W.cond_true rfl ?_
  refine sSeq ?_
  refine W.region ?_
  refine OpsW.det (det_assign rfl) rfl ?_
  refine sNext ?_
  refine W.keep (F' := [(2, _)]) ⟨rfl, trivial⟩ ?_
  refine sRet ?_
  exact done1 Try.results23 (rv_tmp rfl) rfl
theorem Down_ok {bD bm clk room steps fuse : Nat} {down : Bool} {fs : List FE} {w : World} (hG : Blocks ((bD, dblk bm room steps fuse down) :: (bm, mobj (fs.map FE.me) clk) :: fhp fs) w)  : Vm.Pure Try.prog 24 #[dptr bD] w (.bool down) := by
  refine pure_of_W (n := 11) (args := [dptr bD]) Try.func24 rfl Try.ntmps24 (Nat.le_of_ble_eq_true rfl) hG ?_
  refine sStart ?_
  refine sSeq ?_
  refine W.region ?_
  refine OpsW.det (det_assign rfl) rfl ?_
  refine sNext ?_
  refine W.keep (F' := [(0, _)]) ⟨rfl, trivial⟩ ?_
  refine sSeq ?_
  refine W.region ?_
  refine OpsW.det (det_move rfl) rfl ?_
  refine OpsW.det (Det.to (det_nnilPtr u23 rfl rfl) (congrArg Value.bool (rfl))) rfl ?_
  refine OpsW.det (det_move rfl) rfl ?_
  refine OpsW.guard_yes rfl rfl ?_
  refine OpsW.det (det_move rfl) rfl ?_
  refine OpsW.guard_yes rfl rfl ?_
  refine OpsW.det (det_nilCheck rfl) rfl ?_
  refine OpsW.guard_yes rfl rfl ?_
  refine OpsW.det (det_fieldAddr fl66_4 rfl) rfl ?_
  refine OpsW.guard_yes rfl rfl ?_
  refine OpsW.det (det_loadC_ro ty4 rfl (List.Mem.head _) rfl) rfl ?_
  refine OpsW.det (det_pick rfl rfl) rfl ?_
  refine OpsW.det (det_assign rfl) rfl ?_
  refine sNext ?_
  refine W.keep (F' := [(2, _)]) ⟨rfl, trivial⟩ ?_
  refine sRet ?_
  exact done1 Try.results24 (rv_tmp rfl) rfl
theorem DownN_ok  {w : World} (hG : Blocks [] w)  : Vm.Pure Try.prog 24 #[.pointer none] w (.bool false) := by
  refine pure_of_W (n := 11) (args := [.pointer none]) Try.func24 rfl Try.ntmps24 (Nat.le_of_ble_eq_true rfl) hG ?_
  refine sStart ?_
  refine sSeq ?_
  refine W.region ?_
  refine OpsW.det (det_assign rfl) rfl ?_
  refine sNext ?_
  refine W.keep (F' := [(0, _)]) ⟨rfl, trivial⟩ ?_
  refine sSeq ?_
  refine W.region ?_
  refine OpsW.det (det_move rfl) rfl ?_
  refine OpsW.det (Det.to (det_nnilPtr u23 rfl rfl) (congrArg Value.bool (rfl))) rfl ?_
  refine OpsW.det (det_move rfl) rfl ?_
  refine OpsW.guard_no rfl rfl rfl ?_
  refine OpsW.guard_no rfl rfl rfl ?_
  refine OpsW.guard_no rfl rfl rfl ?_
  refine OpsW.guard_no rfl rfl rfl ?_
  refine OpsW.det (det_pick rfl rfl) rfl ?_
  refine OpsW.det (det_assign rfl) rfl ?_
  refine sNext ?_
  refine W.keep (F' := [(2, _)]) ⟨rfl, trivial⟩ ?_
  refine sRet ?_
  exact done1 Try.results24 (rv_tmp rfl) rfl

end Go.Dk
