/-
  Part 9 of the joined texts of the curves' laws: A form's head: the walk. Conditions: of the short form's length.
  Conditions: those that each theorem states.
-/
import Derived.Test.YtndonmbemehefaaDoorP8
import Derived.Test.YtndonmbemehefaaDoorP5
import Derived.Test.YtndonmbemehefaaDoorP2
import Derived.Test.YtndonmbemehefaaDoorP6
import Derived.Test.YtndonmbemehefaaDoorP7
/- A form's head: the walk. Conditions: of the short form's length. -/
namespace Go.Cu
open Go Go.Vm Go.RowKit Go.Proofs 
attribute [local irreducible] W OpsW Det Fresh New Writes Vm.Pure Makes Changes ExternTo BuildTo ZeroTo FieldTo IndexTo BinTo SliceTo Vm.Enters
set_option linter.unusedVariables false
set_option linter.unusedSimpArgs false
variable {T : Nat → TypeId × Nat × Nat}

section
variable {P : Program} {n : Nat} {K : List Nat} {G : Hp} {w0 : World} {F : Fr} {H : Hp} {fn : Func} {S : Value → Hp → Prop}
theorem done4 {r1 r2 r3 r4 : ResultVar} {v1 v2 v3 v4 : Value} (hr : fn.results = #[r1, r2, r3, r4]) (h1 : RV P n K G w0 r1 F H v1) (h2 : RV P n K G w0 r2 F H v2) (h3 : RV P n K G w0 r3 F H v3) (h4 : RV P n K G w0 r4 F H v4) (hS : S (.tuple #[v1, v2, v3, v4]) H) : Done P n K G w0 fn S .ret F H :=
  ⟨.tuple #[v1, v2, v3, v4], fun a w r => by rw [results_eq, hr]; simp [h1 a w r, h2 a w r, h3 a w r, h4 a w r], hS⟩
end
/-- The bytes without the marks. -/
def cl (l : List Nat) : List Nat := (b0 l % 32) :: l.tail
theorem fin_bits : ∀ b : Fin 256, bitsOf .andNot .u8 ((b.val : Nat) : Int) ((b.val / 32 * 32 : Nat) : Int) = ((b.val % 32 : Nat) : Int) ∧ (bitsOf .and .u8 ((b.val / 32 * 32 : Nat) : Int) 128 != 0) = sB b.val ∧ (bitsOf .and .u8 ((b.val / 32 * 32 : Nat) : Int) 64 != 0) = fB b.val ∧ (bitsOf .and .u8 ((b.val / 32 * 32 : Nat) : Int) 32 != 0) = lB b.val ∧ zB b.val = decide (b.val % 32 ≠ 0) := by decide +kernel
theorem bits_at {b : Nat} (h : b < 256) : bitsOf .andNot .u8 ((b : Nat) : Int) ((b / 32 * 32 : Nat) : Int) = ((b % 32 : Nat) : Int) ∧ (bitsOf .and .u8 ((b / 32 * 32 : Nat) : Int) 128 != 0) = sB b ∧ (bitsOf .and .u8 ((b / 32 * 32 : Nat) : Int) 64 != 0) = fB b ∧ (bitsOf .and .u8 ((b / 32 * 32 : Nat) : Int) 32 != 0) = lB b ∧ zB b = decide (b % 32 ≠ 0) := fin_bits ⟨b, h⟩
theorem shr5 {b : Nat} (h : b < 256) : ((b : Nat) : Int).fdiv (2 ^ (min (5 : Int).toNat IntKind.u8.bits)) = ((b / 32 : Nat) : Int) := by
  rw [show min (5 : Int).toNat IntKind.u8.bits = 5 by decide, Int.fdiv_eq_ediv_of_nonneg _ (by decide)]
  exact (Int.natCast_ediv b 32).symm
theorem shl5 {b : Nat} (h : b < 256) : IntKind.u8.wrap (((b / 32 : Nat) : Int) * 2 ^ (min (5 : Int).toNat IntKind.u8.bits)) = ((b / 32 * 32 : Nat) : Int) := by
  have e : ((b / 32 : Nat) : Int) * 2 ^ 5 = ((b / 32 * 32 : Nat) : Int) := by rw [show (2 : Int) ^ 5 = 32 by decide]; omega
  rw [show min (5 : Int).toNat IntKind.u8.bits = 5 by decide, e, wrap_u8]
  omega
theorem b0_lt {l : List Nat} (hs : ∀ c ∈ l, c < 256) (h0 : 0 < l.length) : b0 l < 256 := by
  have : b0 l = l[0] := by unfold b0; rw [List.getD_eq_getElem?_getD, List.getElem?_eq_getElem h0]; rfl
  rw [this]; exact hs _ (List.getElem_mem _)
theorem bcells_cons {l : List Nat} (h0 : 0 < l.length) : bcells l = u8 (b0 l) :: bcells l.tail := by
  cases l with
  | nil => simp at h0
  | cons c r => rfl
theorem cl_len {l : List Nat} (h0 : 0 < l.length) : (cl l).length = l.length := by unfold cl; rw [List.length_cons, List.length_tail]; omega
theorem cl_put {l : List Nat} {sp : List Value} (h0 : 0 < l.length) : splice (0 + (0 : Int).toNat * 1) [.int .u8 ((b0 l % 32 : Nat) : Int)] (bcells l ++ sp) = some (bcells (cl l) ++ sp) := by
  rw [bcells_cons h0]
  exact splice_app (a := []) (new := [.int .u8 ((b0 l % 32 : Nat) : Int)]) (c := u8 (b0 l) :: bcells l.tail ++ sp) (Nat.succ_le_succ (Nat.zero_le _))
theorem bc_at0 {l : List Nat} {sp : List Value} (h0 : 0 < l.length) : (bcells l ++ sp)[0 + (0 : Int).toNat * 1]? = some (.int .u8 ((b0 l : Nat) : Int)) := by rw [bcells_cons h0]; rfl
theorem bc_at {l : List Nat} {sp : List Value} {i : Nat} (h : i < l.length) : (bcells l ++ sp)[0 + ((i : Nat) : Int).toNat * 1]? = some (.int .u8 ((l[i] : Nat) : Int)) := by
  rw [Int.toNat_natCast, Nat.mul_one, Nat.zero_add, List.getElem?_append_left (by unfold bcells; rw [List.length_map]; exact h)]
  unfold bcells; rw [List.getElem?_map, List.getElem?_eq_getElem h]; rfl
theorem bcells_all1 (l : List Nat) : (bcells l).all (·.oneCell') = true := by unfold bcells; rw [List.all_map, List.all_eq_true]; intro z _; rfl
theorem bcells_length (l : List Nat) : (bcells l).length = l.length := List.length_map ..
theorem cl_succ {l : List Nat} {i : Nat} (h : i + 1 < (cl l).length) (h2 : i + 1 < l.length) : (cl l)[i + 1] = l[i + 1] := by
  have : (cl l)[i + 1]? = l[i + 1]? := by unfold cl; rw [List.getElem?_cons_succ, List.getElem?_tail]
  rw [List.getElem?_eq_getElem h, List.getElem?_eq_getElem h2] at this
  exact Option.some.inj this
/-- Whether anything but marks is there. -/
theorem cl_dirty {l : List Nat} {i : Nat} (h0 : 0 < l.length) (hb : b0 l < 256) (h : i < (cl l).length) (hne : (cl l)[i] ≠ 0) : dirty l = true := by
  cases i with
  | zero =>
    refine dirty_0 ?_
    rw [(bits_at hb).2.2.2.2]
    exact decide_eq_true hne
  | succ i =>
    have hl := cl_len h0
    have e : (cl l)[i + 1] = l[i + 1]'(by omega) := cl_succ h (by omega)
    exact dirty_at (i := i + 1) (by omega) (Nat.succ_pos _) (by rw [← e]; exact hne)
theorem cl_clean {l : List Nat} (h0 : 0 < l.length) (hb : b0 l < 256) (h : ∀ j (hj : j < (cl l).length), (cl l)[j] = 0) : dirty l = false := by
  have hl := cl_len h0
  refine clean_all ⟨fun _ => ?_, fun j h1 h2 => ?_⟩
  · have := h 0 (by omega)
    rw [(bits_at hb).2.2.2.2]
    exact decide_eq_false (fun hne => hne this)
  · have := h j (by omega)
    obtain ⟨i, rfl⟩ : ∃ i, j = i + 1 := ⟨j - 1, by omega⟩
    have e : (cl l)[i + 1]'(by omega) = l[i + 1]'h2 := cl_succ (by omega) h2
    rw [List.getD_eq_getElem?_getD, List.getElem?_eq_getElem h2]
    show l[i + 1] = 0
    rw [← e]; exact this
theorem head_no {l : List Nat} {n : Nat} {e : Int} {f : Bool} (h : markE l n = (e, f)) : Value.tuple #[.slice none 0 0, .bool false, .bool false, .int .i64 e] = .tuple #[.slice none 0 0, .bool false, .bool false, .int .i64 (markE l n).1] := by rw [h]
theorem head_abs {l : List Nat} {n : Nat} {e : Int} {f : Bool} (h : markE l n = (e, f)) (h1 : (markE l n).1 = 0) (h2 : e ≠ 0) : False := h2 (by rw [h] at h1; exact h1)


set_option maxHeartbeats 8000000 in
theorem chead_no_ok {G' : Hp} {v : Value} {l : List Nat} {n : Nat} (hB : Bs G' v l) (hn : 0 < n) (hn2 : n ≤ 1000000) (hlen0 : l.length ≤ 1000000) (hE : (markE l n).1 ≠ 0) {w : World} (hG : Blocks (G' ++ GH T) w)  : Vm.Pure Tryd.prog 53 #[v, .int .i64 ((n : Nat) : Int)] w (.tuple #[.slice none 0 0, .bool false, .bool false, .int .i64 (markE l n).1]) := by
  obtain ⟨ad, cap, hvv⟩ := hB.shape
  subst hvv
  refine pure_of_W (n := 79) (args := [.slice ad l.length cap, .int .i64 ((n : Nat) : Int)]) Tryd.func53 rfl Tryd.ntmps53 (Nat.le_of_ble_eq_true rfl) hG ?_
  refine sStart ?_
  refine sSeq ?_
  refine W.region ?_
  refine OpsW.det (det_assign rfl) rfl ?_
  refine OpsW.det (det_assign rfl) rfl ?_
  refine OpsW.det (det_assign rfl) rfl ?_
  refine OpsW.det (det_assign rfl) rfl ?_
  refine sNext ?_
  refine W.keep (F' := [(0, _), (1, _)]) ⟨rfl, rfl, trivial⟩ ?_
  refine sSeq ?_
  refine sSeq ?_
  refine sCut2 (σ := Unit) (fun _s => [(0, .slice ad l.length cap), (1, .int .i64 ((n : Nat) : Int))]) (fun _s => []) (fun _s => l.length = n ∨ l.length = 2 * n) ?_ ?_
  · skip
    refine W.region ?_
    refine OpsW.det (det_move rfl) rfl ?_
    refine OpsW.det (det_len u22 rfl) rfl ?_
    refine OpsW.det (det_move rfl) rfl ?_
    refine OpsW.test ((det_neq (a := (l.length : Int)) (b := (n : Int)) rfl rfl)) rfl (fun hc16 => ?_) (fun hc16 => ?_)
    · skip
      refine OpsW.det (det_move rfl) rfl ?_
      refine OpsW.guard_yes rfl rfl ?_
      refine OpsW.det (det_move rfl) rfl ?_
      refine OpsW.guard_yes rfl rfl ?_
      refine OpsW.det (det_len u22 rfl) rfl ?_
      refine OpsW.guard_yes rfl rfl ?_
      refine OpsW.det (det_move rfl) rfl ?_
      refine OpsW.guard_yes rfl rfl ?_
      refine OpsW.det ((det_mul (a := 2) (b := ((n : Nat) : Int)) rfl rfl).to (v := .int .i64 ((2 * n : Nat) : Int)) (by rw [wrap_i64 (by omega)]; congr 1)) rfl ?_
      refine OpsW.guard_yes rfl rfl ?_
      refine OpsW.det ((det_neq (a := (l.length : Int)) (b := ((2 * n : Nat) : Int)) rfl rfl)) rfl ?_
      refine OpsW.det (det_pick rfl rfl) rfl ?_
      refine sNext ?_
      refine W.keep (F' := [(23, _), (0, _), (1, _)]) ⟨rfl, rfl, rfl, trivial⟩ ?_
      refine W.cond rfl (fun hc23 => ?_) (fun hc23 => ?_)
      · skip
        have hne1 : l.length ≠ n := fun h2 => by have h := hc16; rw [h2] at h; simp at h
        have hne2 : l.length ≠ 2 * n := fun h2 => by have h := hc23; rw [h2] at h; simp at h
        refine sSeq ?_
        refine W.region ?_
        refine OpsW.det (det_assign rfl) rfl ?_
        refine OpsW.det (det_assign rfl) rfl ?_
        refine OpsW.det (det_assign rfl) rfl ?_
        refine OpsW.det (det_assign rfl) rfl ?_
        refine sNext ?_
        refine W.keep (F' := [(7, _), (6, _), (5, _), (4, _)]) ⟨rfl, rfl, rfl, rfl, trivial⟩ ?_
        refine sRet ?_
        refine cutRet ?_
        exact done4 Tryd.results53 (rv_tmp rfl) (rv_tmp rfl) (rv_tmp rfl) (rv_tmp rfl) (head_no (mark_len hne1 hne2))
      · skip
        refine sSkip0 ?_
        exact cutOk () (by have h := hc23; simp at h; omega) ⟨rfl, rfl, trivial⟩ (List.nil_sublist _)
    · skip
      refine OpsW.det (det_move rfl) rfl ?_
      refine OpsW.guard_no rfl rfl rfl ?_
      refine OpsW.guard_no rfl rfl rfl ?_
      refine OpsW.guard_no rfl rfl rfl ?_
      refine OpsW.guard_no rfl rfl rfl ?_
      refine OpsW.guard_no rfl rfl rfl ?_
      refine OpsW.det (det_pick rfl rfl) rfl ?_
      refine sNext ?_
      refine W.keep (F' := [(23, _), (0, _), (1, _)]) ⟨rfl, rfl, rfl, trivial⟩ ?_
      refine W.cond_false rfl ?_
      refine sSkip0 ?_
      exact cutOk () (by have h := hc16; simp at h; omega) ⟨rfl, rfl, trivial⟩ (List.nil_sublist _)
  · skip
    rintro - hlen
    have hpos : 0 < l.length := by omega
    obtain ⟨bk0, o0, cap0, cs0, e0, fr0, hv0, hm0, hcell0⟩ := hB.at_ 0 hpos
    simp only [Value.slice.injEq] at hv0
    obtain ⟨rfl, _, rfl⟩ := hv0
    refine sSeq ?_
    refine W.region ?_
    refine OpsW.det (det_move rfl) rfl ?_
    refine OpsW.det (det_len u22 rfl) rfl ?_
    refine OpsW.det (det_move rfl) rfl ?_
    refine OpsW.det ((det_eql (a := (l.length : Int)) (b := (n : Int)) rfl rfl).to (v := .bool (decide (l.length = n))) (congrArg Value.bool (by rw [Bool.eq_iff_iff, beq_iff_eq, decide_eq_true_iff]; omega))) rfl ?_
    refine OpsW.det (det_assign rfl) rfl ?_
    refine sNext ?_
    refine W.keep (F' := [(8, _), (0, _)]) ⟨rfl, rfl, trivial⟩ ?_
    refine sSeq ?_
    refine W.region ?_
    refine OpsW.det (det_move rfl) rfl ?_
    refine OpsW.det (det_indexAddr_sl u22 sz5 rfl rfl ⟨by decide, by omega⟩) rfl ?_
    refine OpsW.det (det_loadC_ro ty5 rfl (List.mem_append_left _ hm0) (b0_at hpos hcell0)) rfl ?_
    refine OpsW.det ((det_shr (b := 5) rfl rfl (by decide)).to (v := .int .u8 ((b0 l / 32 : Nat) : Int)) (congrArg (Value.int .u8) (shr5 (b0_lt hB.small hpos)))) rfl ?_
    refine OpsW.det ((det_shl (b := 5) rfl rfl (by decide)).to (v := .int .u8 ((b0 l / 32 * 32 : Nat) : Int)) (congrArg (Value.int .u8) (shl5 (b0_lt hB.small hpos)))) rfl ?_
    refine OpsW.det (det_assign rfl) rfl ?_
    refine sNext ?_
    refine W.keep (F' := [(9, _), (8, _), (0, _)]) ⟨rfl, rfl, rfl, trivial⟩ ?_
    refine sSeq ?_
    refine W.region ?_
    refine OpsW.det (det_move rfl) rfl ?_
    obtain ⟨bka, oa, capa, csa, ea, fra, hva, hma, _, hcella⟩ := hB.all hpos
    simp only [Value.slice.injEq, Option.some.injEq, Addr.mk.injEq] at hva
    obtain ⟨⟨rfl, rfl, _⟩, _, rfl⟩ := hva
    refine OpsW.append (hp := []) (len := 0) (xs := []) (news := bcells l) ty22 rfl .nil rfl (.inr (List.mem_append_left _ hma)) (by rw [bcells_length, Nat.mul_one]) (fun j u hj => by have h := hj; unfold bcells at h; rw [List.getElem?_map, Option.map_eq_some_iff] at h; obtain ⟨z, hz, rfl⟩ := h; obtain ⟨hj2, rfl⟩ := List.getElem?_eq_some_iff.1 hz; exact hcella j hj2) (bcells_all1 l) (by show 0 + l.length ≤ 9223372036854775807; omega) (by omega) rfl ?_
    intro v' hp' hsl
    obtain ⟨bn, capn, spn, rfl, rfl, h2n, h3n⟩ := isSl_pos hsl (by omega)
    refine OpsW.norm (F' := [(34, .slice (some ⟨bn, 0, none⟩) (0 + l.length) capn), (33, _), (9, _), (8, _), (0, _)]) (H' := [(bn, blk (bcells l ++ spn) 5)]) rfl rfl ?_
    refine OpsW.det (det_assign rfl) rfl ?_
    refine sNext ?_
    refine W.keep (F' := [(10, _), (9, _), (8, _)]) ⟨rfl, rfl, rfl, trivial⟩ ?_
    refine sSeq ?_
    refine W.region ?_
    refine OpsW.det (det_move rfl) rfl ?_
    refine OpsW.det (det_indexAddr_sl u22 sz5 rfl rfl ⟨by decide, by omega⟩) rfl ?_
    refine OpsW.det (det_loadC ty5 rfl (List.Mem.head _) (bc_at0 hpos)) rfl ?_
    refine OpsW.det (det_move rfl) rfl ?_
    refine OpsW.det ((det_andNot rfl rfl).to (v := .int .u8 ((b0 l % 32 : Nat) : Int)) (congrArg (Value.int .u8) (bits_at (b0_lt hB.small hpos)).1)) rfl ?_
    refine OpsW.det (det_indexAddr_sl u22 sz5 rfl rfl ⟨by decide, by omega⟩) rfl ?_
    refine OpsW.store sz5 rfl rfl rfl rfl rfl (Upd.here) (cl_put hpos) ?_
    refine sNext ?_
    refine W.keep (F' := [(10, _), (9, _), (8, _)]) ⟨rfl, rfl, rfl, trivial⟩ ?_
    refine sSeq ?_
    refine sSeq ?_
    refine sCut2 (σ := Unit) (fun _s => [(10, .slice (some ⟨bn, 0, none⟩) (0 + l.length) capn), (9, .int .u8 ((b0 l / 32 * 32 : Nat) : Int))]) (fun _s => [(bn, blk (bcells (cl l) ++ spn) 5)]) (fun _s => badM l n = false) ?_ ?_
    · skip
      rcases hs : sB (b0 l) with _ | _ <;> rcases hl : lB (b0 l) with _ | _ <;> rcases hf : fB (b0 l) with _ | _ <;> rcases hsh : decide (l.length = n) with _ | _
      · skip
        refine W.region ?_
        refine OpsW.det (det_move rfl) rfl ?_
        refine OpsW.det (det_and rfl rfl) rfl ?_
        refine OpsW.det (Det.to ((det_neq (b := 0) rfl rfl)) (congrArg Value.bool ((bits_at (b0_lt hB.small hpos)).2.1.trans hs))) rfl ?_
        refine OpsW.det (det_move rfl) rfl ?_
        refine OpsW.det (Det.to (det_neqb u4 rfl rfl) (congrArg Value.bool (rfl))) rfl ?_
        refine OpsW.det (det_move rfl) rfl ?_
        refine OpsW.guard_yes rfl rfl ?_
        refine OpsW.det (det_move rfl) rfl ?_
        refine OpsW.guard_yes rfl rfl ?_
        refine OpsW.det (det_and rfl rfl) rfl ?_
        refine OpsW.guard_yes rfl rfl ?_
        refine OpsW.det (Det.to ((det_neq (b := 0) rfl rfl)) (congrArg Value.bool ((bits_at (b0_lt hB.small hpos)).2.2.2.1.trans hl))) rfl ?_
        refine OpsW.guard_yes rfl rfl ?_
        refine OpsW.det (det_move rfl) rfl ?_
        refine OpsW.guard_no rfl rfl rfl ?_
        refine OpsW.guard_no rfl rfl rfl ?_
        refine OpsW.guard_no rfl rfl rfl ?_
        refine OpsW.guard_un rfl rfl rfl ?_
        refine OpsW.guard_un rfl rfl rfl ?_
        refine OpsW.guard_un rfl rfl rfl ?_
        refine OpsW.guard_no rfl rfl rfl ?_
        refine OpsW.guard_yes rfl rfl ?_
        refine OpsW.det (det_pick rfl rfl) rfl ?_
        refine OpsW.det (det_pick rfl rfl) rfl ?_
        refine sNext ?_
        refine W.keep (F' := [(59, _), (10, _), (9, _)]) ⟨rfl, rfl, rfl, trivial⟩ ?_
        refine W.cond_false rfl ?_
        refine sSkip0 ?_
        exact cutOk () (by unfold badM; rw [hs, hl, hf, hsh]; rfl) ⟨rfl, rfl, trivial⟩ (List.Sublist.refl _)
      · skip
        refine W.region ?_
        refine OpsW.det (det_move rfl) rfl ?_
        refine OpsW.det (det_and rfl rfl) rfl ?_
        refine OpsW.det (Det.to ((det_neq (b := 0) rfl rfl)) (congrArg Value.bool ((bits_at (b0_lt hB.small hpos)).2.1.trans hs))) rfl ?_
        refine OpsW.det (det_move rfl) rfl ?_
        refine OpsW.det (Det.to (det_neqb u4 rfl rfl) (congrArg Value.bool (rfl))) rfl ?_
        refine OpsW.det (det_move rfl) rfl ?_
        refine OpsW.guard_no rfl rfl rfl ?_
        refine OpsW.guard_no rfl rfl rfl ?_
        refine OpsW.guard_no rfl rfl rfl ?_
        refine OpsW.guard_no rfl rfl rfl ?_
        refine OpsW.guard_un rfl rfl rfl ?_
        refine OpsW.guard_un rfl rfl rfl ?_
        refine OpsW.guard_un rfl rfl rfl ?_
        refine OpsW.guard_un rfl rfl rfl ?_
        refine OpsW.guard_un rfl rfl rfl ?_
        refine OpsW.guard_un rfl rfl rfl ?_
        refine OpsW.guard_un rfl rfl rfl ?_
        refine OpsW.guard_no rfl rfl rfl ?_
        refine OpsW.det (det_pick rfl rfl) rfl ?_
        refine sNext ?_
        refine W.keep (F' := [(59, _), (10, _), (9, _)]) ⟨rfl, rfl, rfl, trivial⟩ ?_
        refine W.cond_true rfl ?_
        refine sSeq ?_
        refine W.region ?_
        refine OpsW.det (det_assign rfl) rfl ?_
        refine OpsW.det (det_assign rfl) rfl ?_
        refine OpsW.det (det_assign rfl) rfl ?_
        refine OpsW.det (det_assign rfl) rfl ?_
        refine sNext ?_
        refine W.keep (F' := [(7, _), (6, _), (5, _), (4, _)]) ⟨rfl, rfl, rfl, rfl, trivial⟩ ?_
        refine sRet ?_
        refine cutRet ?_
        exact done4 Tryd.results53 (rv_tmp rfl) (rv_tmp rfl) (rv_tmp rfl) (rv_tmp rfl) (head_no (mark_bad hlen (by unfold badM; rw [hs, hl, hf, hsh]; rfl)))
      · skip
        refine W.region ?_
        refine OpsW.det (det_move rfl) rfl ?_
        refine OpsW.det (det_and rfl rfl) rfl ?_
        refine OpsW.det (Det.to ((det_neq (b := 0) rfl rfl)) (congrArg Value.bool ((bits_at (b0_lt hB.small hpos)).2.1.trans hs))) rfl ?_
        refine OpsW.det (det_move rfl) rfl ?_
        refine OpsW.det (Det.to (det_neqb u4 rfl rfl) (congrArg Value.bool (rfl))) rfl ?_
        refine OpsW.det (det_move rfl) rfl ?_
        refine OpsW.guard_yes rfl rfl ?_
        refine OpsW.det (det_move rfl) rfl ?_
        refine OpsW.guard_yes rfl rfl ?_
        refine OpsW.det (det_and rfl rfl) rfl ?_
        refine OpsW.guard_yes rfl rfl ?_
        refine OpsW.det (Det.to ((det_neq (b := 0) rfl rfl)) (congrArg Value.bool ((bits_at (b0_lt hB.small hpos)).2.2.2.1.trans hl))) rfl ?_
        refine OpsW.guard_yes rfl rfl ?_
        refine OpsW.det (det_move rfl) rfl ?_
        refine OpsW.guard_no rfl rfl rfl ?_
        refine OpsW.guard_no rfl rfl rfl ?_
        refine OpsW.guard_no rfl rfl rfl ?_
        refine OpsW.guard_un rfl rfl rfl ?_
        refine OpsW.guard_un rfl rfl rfl ?_
        refine OpsW.guard_un rfl rfl rfl ?_
        refine OpsW.guard_no rfl rfl rfl ?_
        refine OpsW.guard_yes rfl rfl ?_
        refine OpsW.det (det_pick rfl rfl) rfl ?_
        refine OpsW.det (det_pick rfl rfl) rfl ?_
        refine sNext ?_
        refine W.keep (F' := [(59, _), (10, _), (9, _)]) ⟨rfl, rfl, rfl, trivial⟩ ?_
        refine W.cond_false rfl ?_
        refine sSkip0 ?_
        exact cutOk () (by unfold badM; rw [hs, hl, hf, hsh]; rfl) ⟨rfl, rfl, trivial⟩ (List.Sublist.refl _)
      · skip
        refine W.region ?_
        refine OpsW.det (det_move rfl) rfl ?_
        refine OpsW.det (det_and rfl rfl) rfl ?_
        refine OpsW.det (Det.to ((det_neq (b := 0) rfl rfl)) (congrArg Value.bool ((bits_at (b0_lt hB.small hpos)).2.1.trans hs))) rfl ?_
        refine OpsW.det (det_move rfl) rfl ?_
        refine OpsW.det (Det.to (det_neqb u4 rfl rfl) (congrArg Value.bool (rfl))) rfl ?_
        refine OpsW.det (det_move rfl) rfl ?_
        refine OpsW.guard_no rfl rfl rfl ?_
        refine OpsW.guard_no rfl rfl rfl ?_
        refine OpsW.guard_no rfl rfl rfl ?_
        refine OpsW.guard_no rfl rfl rfl ?_
        refine OpsW.guard_un rfl rfl rfl ?_
        refine OpsW.guard_un rfl rfl rfl ?_
        refine OpsW.guard_un rfl rfl rfl ?_
        refine OpsW.guard_un rfl rfl rfl ?_
        refine OpsW.guard_un rfl rfl rfl ?_
        refine OpsW.guard_un rfl rfl rfl ?_
        refine OpsW.guard_un rfl rfl rfl ?_
        refine OpsW.guard_no rfl rfl rfl ?_
        refine OpsW.det (det_pick rfl rfl) rfl ?_
        refine sNext ?_
        refine W.keep (F' := [(59, _), (10, _), (9, _)]) ⟨rfl, rfl, rfl, trivial⟩ ?_
        refine W.cond_true rfl ?_
        refine sSeq ?_
        refine W.region ?_
        refine OpsW.det (det_assign rfl) rfl ?_
        refine OpsW.det (det_assign rfl) rfl ?_
        refine OpsW.det (det_assign rfl) rfl ?_
        refine OpsW.det (det_assign rfl) rfl ?_
        refine sNext ?_
        refine W.keep (F' := [(7, _), (6, _), (5, _), (4, _)]) ⟨rfl, rfl, rfl, rfl, trivial⟩ ?_
        refine sRet ?_
        refine cutRet ?_
        exact done4 Tryd.results53 (rv_tmp rfl) (rv_tmp rfl) (rv_tmp rfl) (rv_tmp rfl) (head_no (mark_bad hlen (by unfold badM; rw [hs, hl, hf, hsh]; rfl)))
      · skip
        refine W.region ?_
        refine OpsW.det (det_move rfl) rfl ?_
        refine OpsW.det (det_and rfl rfl) rfl ?_
        refine OpsW.det (Det.to ((det_neq (b := 0) rfl rfl)) (congrArg Value.bool ((bits_at (b0_lt hB.small hpos)).2.1.trans hs))) rfl ?_
        refine OpsW.det (det_move rfl) rfl ?_
        refine OpsW.det (Det.to (det_neqb u4 rfl rfl) (congrArg Value.bool (rfl))) rfl ?_
        refine OpsW.det (det_move rfl) rfl ?_
        refine OpsW.guard_yes rfl rfl ?_
        refine OpsW.det (det_move rfl) rfl ?_
        refine OpsW.guard_yes rfl rfl ?_
        refine OpsW.det (det_and rfl rfl) rfl ?_
        refine OpsW.guard_yes rfl rfl ?_
        refine OpsW.det (Det.to ((det_neq (b := 0) rfl rfl)) (congrArg Value.bool ((bits_at (b0_lt hB.small hpos)).2.2.2.1.trans hl))) rfl ?_
        refine OpsW.guard_yes rfl rfl ?_
        refine OpsW.det (det_move rfl) rfl ?_
        refine OpsW.guard_yes rfl rfl ?_
        refine OpsW.det (det_move rfl) rfl ?_
        refine OpsW.guard_yes rfl rfl ?_
        refine OpsW.det (det_not rfl) rfl ?_
        refine OpsW.guard_yes rfl rfl ?_
        refine OpsW.det (det_move rfl) rfl ?_
        refine OpsW.guard_no rfl rfl rfl ?_
        refine OpsW.guard_no rfl rfl rfl ?_
        refine OpsW.guard_no rfl rfl rfl ?_
        refine OpsW.guard_yes rfl rfl ?_
        refine OpsW.det (det_pick rfl rfl) rfl ?_
        refine OpsW.guard_yes rfl rfl ?_
        refine OpsW.det (det_pick rfl rfl) rfl ?_
        refine OpsW.det (det_pick rfl rfl) rfl ?_
        refine sNext ?_
        refine W.keep (F' := [(59, _), (10, _), (9, _)]) ⟨rfl, rfl, rfl, trivial⟩ ?_
        refine W.cond_true rfl ?_
        refine sSeq ?_
        refine W.region ?_
        refine OpsW.det (det_assign rfl) rfl ?_
        refine OpsW.det (det_assign rfl) rfl ?_
        refine OpsW.det (det_assign rfl) rfl ?_
        refine OpsW.det (det_assign rfl) rfl ?_
        refine sNext ?_
        refine W.keep (F' := [(7, _), (6, _), (5, _), (4, _)]) ⟨rfl, rfl, rfl, rfl, trivial⟩ ?_
        refine sRet ?_
        refine cutRet ?_
        exact done4 Tryd.results53 (rv_tmp rfl) (rv_tmp rfl) (rv_tmp rfl) (rv_tmp rfl) (head_no (mark_bad hlen (by unfold badM; rw [hs, hl, hf, hsh]; rfl)))
      · skip
        refine W.region ?_
        refine OpsW.det (det_move rfl) rfl ?_
        refine OpsW.det (det_and rfl rfl) rfl ?_
        refine OpsW.det (Det.to ((det_neq (b := 0) rfl rfl)) (congrArg Value.bool ((bits_at (b0_lt hB.small hpos)).2.1.trans hs))) rfl ?_
        refine OpsW.det (det_move rfl) rfl ?_
        refine OpsW.det (Det.to (det_neqb u4 rfl rfl) (congrArg Value.bool (rfl))) rfl ?_
        refine OpsW.det (det_move rfl) rfl ?_
        refine OpsW.guard_no rfl rfl rfl ?_
        refine OpsW.guard_no rfl rfl rfl ?_
        refine OpsW.guard_no rfl rfl rfl ?_
        refine OpsW.guard_no rfl rfl rfl ?_
        refine OpsW.guard_un rfl rfl rfl ?_
        refine OpsW.guard_un rfl rfl rfl ?_
        refine OpsW.guard_un rfl rfl rfl ?_
        refine OpsW.guard_un rfl rfl rfl ?_
        refine OpsW.guard_un rfl rfl rfl ?_
        refine OpsW.guard_un rfl rfl rfl ?_
        refine OpsW.guard_un rfl rfl rfl ?_
        refine OpsW.guard_no rfl rfl rfl ?_
        refine OpsW.det (det_pick rfl rfl) rfl ?_
        refine sNext ?_
        refine W.keep (F' := [(59, _), (10, _), (9, _)]) ⟨rfl, rfl, rfl, trivial⟩ ?_
        refine W.cond_true rfl ?_
        refine sSeq ?_
        refine W.region ?_
        refine OpsW.det (det_assign rfl) rfl ?_
        refine OpsW.det (det_assign rfl) rfl ?_
        refine OpsW.det (det_assign rfl) rfl ?_
        refine OpsW.det (det_assign rfl) rfl ?_
        refine sNext ?_
        refine W.keep (F' := [(7, _), (6, _), (5, _), (4, _)]) ⟨rfl, rfl, rfl, rfl, trivial⟩ ?_
        refine sRet ?_
        refine cutRet ?_
        exact done4 Tryd.results53 (rv_tmp rfl) (rv_tmp rfl) (rv_tmp rfl) (rv_tmp rfl) (head_no (mark_bad hlen (by unfold badM; rw [hs, hl, hf, hsh]; rfl)))
      · skip
        refine W.region ?_
        refine OpsW.det (det_move rfl) rfl ?_
        refine OpsW.det (det_and rfl rfl) rfl ?_
        refine OpsW.det (Det.to ((det_neq (b := 0) rfl rfl)) (congrArg Value.bool ((bits_at (b0_lt hB.small hpos)).2.1.trans hs))) rfl ?_
        refine OpsW.det (det_move rfl) rfl ?_
        refine OpsW.det (Det.to (det_neqb u4 rfl rfl) (congrArg Value.bool (rfl))) rfl ?_
        refine OpsW.det (det_move rfl) rfl ?_
        refine OpsW.guard_yes rfl rfl ?_
        refine OpsW.det (det_move rfl) rfl ?_
        refine OpsW.guard_yes rfl rfl ?_
        refine OpsW.det (det_and rfl rfl) rfl ?_
        refine OpsW.guard_yes rfl rfl ?_
        refine OpsW.det (Det.to ((det_neq (b := 0) rfl rfl)) (congrArg Value.bool ((bits_at (b0_lt hB.small hpos)).2.2.2.1.trans hl))) rfl ?_
        refine OpsW.guard_yes rfl rfl ?_
        refine OpsW.det (det_move rfl) rfl ?_
        refine OpsW.guard_yes rfl rfl ?_
        refine OpsW.det (det_move rfl) rfl ?_
        refine OpsW.guard_yes rfl rfl ?_
        refine OpsW.det (det_not rfl) rfl ?_
        refine OpsW.guard_yes rfl rfl ?_
        refine OpsW.det (det_move rfl) rfl ?_
        refine OpsW.guard_no rfl rfl rfl ?_
        refine OpsW.guard_no rfl rfl rfl ?_
        refine OpsW.guard_no rfl rfl rfl ?_
        refine OpsW.guard_yes rfl rfl ?_
        refine OpsW.det (det_pick rfl rfl) rfl ?_
        refine OpsW.guard_yes rfl rfl ?_
        refine OpsW.det (det_pick rfl rfl) rfl ?_
        refine OpsW.det (det_pick rfl rfl) rfl ?_
        refine sNext ?_
        refine W.keep (F' := [(59, _), (10, _), (9, _)]) ⟨rfl, rfl, rfl, trivial⟩ ?_
        refine W.cond_true rfl ?_
        refine sSeq ?_
        refine W.region ?_
        refine OpsW.det (det_assign rfl) rfl ?_
        refine OpsW.det (det_assign rfl) rfl ?_
        refine OpsW.det (det_assign rfl) rfl ?_
        refine OpsW.det (det_assign rfl) rfl ?_
        refine sNext ?_
        refine W.keep (F' := [(7, _), (6, _), (5, _), (4, _)]) ⟨rfl, rfl, rfl, rfl, trivial⟩ ?_
        refine sRet ?_
        refine cutRet ?_
        exact done4 Tryd.results53 (rv_tmp rfl) (rv_tmp rfl) (rv_tmp rfl) (rv_tmp rfl) (head_no (mark_bad hlen (by unfold badM; rw [hs, hl, hf, hsh]; rfl)))
      · skip
        refine W.region ?_
        refine OpsW.det (det_move rfl) rfl ?_
        refine OpsW.det (det_and rfl rfl) rfl ?_
        refine OpsW.det (Det.to ((det_neq (b := 0) rfl rfl)) (congrArg Value.bool ((bits_at (b0_lt hB.small hpos)).2.1.trans hs))) rfl ?_
        refine OpsW.det (det_move rfl) rfl ?_
        refine OpsW.det (Det.to (det_neqb u4 rfl rfl) (congrArg Value.bool (rfl))) rfl ?_
        refine OpsW.det (det_move rfl) rfl ?_
        refine OpsW.guard_no rfl rfl rfl ?_
        refine OpsW.guard_no rfl rfl rfl ?_
        refine OpsW.guard_no rfl rfl rfl ?_
        refine OpsW.guard_no rfl rfl rfl ?_
        refine OpsW.guard_un rfl rfl rfl ?_
        refine OpsW.guard_un rfl rfl rfl ?_
        refine OpsW.guard_un rfl rfl rfl ?_
        refine OpsW.guard_un rfl rfl rfl ?_
        refine OpsW.guard_un rfl rfl rfl ?_
        refine OpsW.guard_un rfl rfl rfl ?_
        refine OpsW.guard_un rfl rfl rfl ?_
        refine OpsW.guard_no rfl rfl rfl ?_
        refine OpsW.det (det_pick rfl rfl) rfl ?_
        refine sNext ?_
        refine W.keep (F' := [(59, _), (10, _), (9, _)]) ⟨rfl, rfl, rfl, trivial⟩ ?_
        refine W.cond_true rfl ?_
        refine sSeq ?_
        refine W.region ?_
        refine OpsW.det (det_assign rfl) rfl ?_
        refine OpsW.det (det_assign rfl) rfl ?_
        refine OpsW.det (det_assign rfl) rfl ?_
        refine OpsW.det (det_assign rfl) rfl ?_
        refine sNext ?_
        refine W.keep (F' := [(7, _), (6, _), (5, _), (4, _)]) ⟨rfl, rfl, rfl, rfl, trivial⟩ ?_
        refine sRet ?_
        refine cutRet ?_
        exact done4 Tryd.results53 (rv_tmp rfl) (rv_tmp rfl) (rv_tmp rfl) (rv_tmp rfl) (head_no (mark_bad hlen (by unfold badM; rw [hs, hl, hf, hsh]; rfl)))
      · skip
        refine W.region ?_
        refine OpsW.det (det_move rfl) rfl ?_
        refine OpsW.det (det_and rfl rfl) rfl ?_
        refine OpsW.det (Det.to ((det_neq (b := 0) rfl rfl)) (congrArg Value.bool ((bits_at (b0_lt hB.small hpos)).2.1.trans hs))) rfl ?_
        refine OpsW.det (det_move rfl) rfl ?_
        refine OpsW.det (Det.to (det_neqb u4 rfl rfl) (congrArg Value.bool (rfl))) rfl ?_
        refine OpsW.det (det_move rfl) rfl ?_
        refine OpsW.guard_no rfl rfl rfl ?_
        refine OpsW.guard_no rfl rfl rfl ?_
        refine OpsW.guard_no rfl rfl rfl ?_
        refine OpsW.guard_no rfl rfl rfl ?_
        refine OpsW.guard_un rfl rfl rfl ?_
        refine OpsW.guard_un rfl rfl rfl ?_
        refine OpsW.guard_un rfl rfl rfl ?_
        refine OpsW.guard_un rfl rfl rfl ?_
        refine OpsW.guard_un rfl rfl rfl ?_
        refine OpsW.guard_un rfl rfl rfl ?_
        refine OpsW.guard_un rfl rfl rfl ?_
        refine OpsW.guard_no rfl rfl rfl ?_
        refine OpsW.det (det_pick rfl rfl) rfl ?_
        refine sNext ?_
        refine W.keep (F' := [(59, _), (10, _), (9, _)]) ⟨rfl, rfl, rfl, trivial⟩ ?_
        refine W.cond_true rfl ?_
        refine sSeq ?_
        refine W.region ?_
        refine OpsW.det (det_assign rfl) rfl ?_
        refine OpsW.det (det_assign rfl) rfl ?_
        refine OpsW.det (det_assign rfl) rfl ?_
        refine OpsW.det (det_assign rfl) rfl ?_
        refine sNext ?_
        refine W.keep (F' := [(7, _), (6, _), (5, _), (4, _)]) ⟨rfl, rfl, rfl, rfl, trivial⟩ ?_
        refine sRet ?_
        refine cutRet ?_
        exact done4 Tryd.results53 (rv_tmp rfl) (rv_tmp rfl) (rv_tmp rfl) (rv_tmp rfl) (head_no (mark_bad hlen (by unfold badM; rw [hs, hl, hf, hsh]; rfl)))
      · skip
        refine W.region ?_
        refine OpsW.det (det_move rfl) rfl ?_
        refine OpsW.det (det_and rfl rfl) rfl ?_
        refine OpsW.det (Det.to ((det_neq (b := 0) rfl rfl)) (congrArg Value.bool ((bits_at (b0_lt hB.small hpos)).2.1.trans hs))) rfl ?_
        refine OpsW.det (det_move rfl) rfl ?_
        refine OpsW.det (Det.to (det_neqb u4 rfl rfl) (congrArg Value.bool (rfl))) rfl ?_
        refine OpsW.det (det_move rfl) rfl ?_
        refine OpsW.guard_yes rfl rfl ?_
        refine OpsW.det (det_move rfl) rfl ?_
        refine OpsW.guard_yes rfl rfl ?_
        refine OpsW.det (det_and rfl rfl) rfl ?_
        refine OpsW.guard_yes rfl rfl ?_
        refine OpsW.det (Det.to ((det_neq (b := 0) rfl rfl)) (congrArg Value.bool ((bits_at (b0_lt hB.small hpos)).2.2.2.1.trans hl))) rfl ?_
        refine OpsW.guard_yes rfl rfl ?_
        refine OpsW.det (det_move rfl) rfl ?_
        refine OpsW.guard_no rfl rfl rfl ?_
        refine OpsW.guard_no rfl rfl rfl ?_
        refine OpsW.guard_no rfl rfl rfl ?_
        refine OpsW.guard_un rfl rfl rfl ?_
        refine OpsW.guard_un rfl rfl rfl ?_
        refine OpsW.guard_un rfl rfl rfl ?_
        refine OpsW.guard_no rfl rfl rfl ?_
        refine OpsW.guard_yes rfl rfl ?_
        refine OpsW.det (det_pick rfl rfl) rfl ?_
        refine OpsW.det (det_pick rfl rfl) rfl ?_
        refine sNext ?_
        refine W.keep (F' := [(59, _), (10, _), (9, _)]) ⟨rfl, rfl, rfl, trivial⟩ ?_
        refine W.cond_false rfl ?_
        refine sSkip0 ?_
        exact cutOk () (by unfold badM; rw [hs, hl, hf, hsh]; rfl) ⟨rfl, rfl, trivial⟩ (List.Sublist.refl _)
      · skip
        refine W.region ?_
        refine OpsW.det (det_move rfl) rfl ?_
        refine OpsW.det (det_and rfl rfl) rfl ?_
        refine OpsW.det (Det.to ((det_neq (b := 0) rfl rfl)) (congrArg Value.bool ((bits_at (b0_lt hB.small hpos)).2.1.trans hs))) rfl ?_
        refine OpsW.det (det_move rfl) rfl ?_
        refine OpsW.det (Det.to (det_neqb u4 rfl rfl) (congrArg Value.bool (rfl))) rfl ?_
        refine OpsW.det (det_move rfl) rfl ?_
        refine OpsW.guard_no rfl rfl rfl ?_
        refine OpsW.guard_no rfl rfl rfl ?_
        refine OpsW.guard_no rfl rfl rfl ?_
        refine OpsW.guard_no rfl rfl rfl ?_
        refine OpsW.guard_un rfl rfl rfl ?_
        refine OpsW.guard_un rfl rfl rfl ?_
        refine OpsW.guard_un rfl rfl rfl ?_
        refine OpsW.guard_un rfl rfl rfl ?_
        refine OpsW.guard_un rfl rfl rfl ?_
        refine OpsW.guard_un rfl rfl rfl ?_
        refine OpsW.guard_un rfl rfl rfl ?_
        refine OpsW.guard_no rfl rfl rfl ?_
        refine OpsW.det (det_pick rfl rfl) rfl ?_
        refine sNext ?_
        refine W.keep (F' := [(59, _), (10, _), (9, _)]) ⟨rfl, rfl, rfl, trivial⟩ ?_
        refine W.cond_true rfl ?_
        refine sSeq ?_
        refine W.region ?_
        refine OpsW.det (det_assign rfl) rfl ?_
        refine OpsW.det (det_assign rfl) rfl ?_
        refine OpsW.det (det_assign rfl) rfl ?_
        refine OpsW.det (det_assign rfl) rfl ?_
        refine sNext ?_
        refine W.keep (F' := [(7, _), (6, _), (5, _), (4, _)]) ⟨rfl, rfl, rfl, rfl, trivial⟩ ?_
        refine sRet ?_
        refine cutRet ?_
        exact done4 Tryd.results53 (rv_tmp rfl) (rv_tmp rfl) (rv_tmp rfl) (rv_tmp rfl) (head_no (mark_bad hlen (by unfold badM; rw [hs, hl, hf, hsh]; rfl)))
      · skip
        refine W.region ?_
        refine OpsW.det (det_move rfl) rfl ?_
        refine OpsW.det (det_and rfl rfl) rfl ?_
        refine OpsW.det (Det.to ((det_neq (b := 0) rfl rfl)) (congrArg Value.bool ((bits_at (b0_lt hB.small hpos)).2.1.trans hs))) rfl ?_
        refine OpsW.det (det_move rfl) rfl ?_
        refine OpsW.det (Det.to (det_neqb u4 rfl rfl) (congrArg Value.bool (rfl))) rfl ?_
        refine OpsW.det (det_move rfl) rfl ?_
        refine OpsW.guard_yes rfl rfl ?_
        refine OpsW.det (det_move rfl) rfl ?_
        refine OpsW.guard_yes rfl rfl ?_
        refine OpsW.det (det_and rfl rfl) rfl ?_
        refine OpsW.guard_yes rfl rfl ?_
        refine OpsW.det (Det.to ((det_neq (b := 0) rfl rfl)) (congrArg Value.bool ((bits_at (b0_lt hB.small hpos)).2.2.2.1.trans hl))) rfl ?_
        refine OpsW.guard_yes rfl rfl ?_
        refine OpsW.det (det_move rfl) rfl ?_
        refine OpsW.guard_no rfl rfl rfl ?_
        refine OpsW.guard_no rfl rfl rfl ?_
        refine OpsW.guard_no rfl rfl rfl ?_
        refine OpsW.guard_un rfl rfl rfl ?_
        refine OpsW.guard_un rfl rfl rfl ?_
        refine OpsW.guard_un rfl rfl rfl ?_
        refine OpsW.guard_no rfl rfl rfl ?_
        refine OpsW.guard_yes rfl rfl ?_
        refine OpsW.det (det_pick rfl rfl) rfl ?_
        refine OpsW.det (det_pick rfl rfl) rfl ?_
        refine sNext ?_
        refine W.keep (F' := [(59, _), (10, _), (9, _)]) ⟨rfl, rfl, rfl, trivial⟩ ?_
        refine W.cond_false rfl ?_
        refine sSkip0 ?_
        exact cutOk () (by unfold badM; rw [hs, hl, hf, hsh]; rfl) ⟨rfl, rfl, trivial⟩ (List.Sublist.refl _)
      · skip
        refine W.region ?_
        refine OpsW.det (det_move rfl) rfl ?_
        refine OpsW.det (det_and rfl rfl) rfl ?_
        refine OpsW.det (Det.to ((det_neq (b := 0) rfl rfl)) (congrArg Value.bool ((bits_at (b0_lt hB.small hpos)).2.1.trans hs))) rfl ?_
        refine OpsW.det (det_move rfl) rfl ?_
        refine OpsW.det (Det.to (det_neqb u4 rfl rfl) (congrArg Value.bool (rfl))) rfl ?_
        refine OpsW.det (det_move rfl) rfl ?_
        refine OpsW.guard_no rfl rfl rfl ?_
        refine OpsW.guard_no rfl rfl rfl ?_
        refine OpsW.guard_no rfl rfl rfl ?_
        refine OpsW.guard_no rfl rfl rfl ?_
        refine OpsW.guard_un rfl rfl rfl ?_
        refine OpsW.guard_un rfl rfl rfl ?_
        refine OpsW.guard_un rfl rfl rfl ?_
        refine OpsW.guard_un rfl rfl rfl ?_
        refine OpsW.guard_un rfl rfl rfl ?_
        refine OpsW.guard_un rfl rfl rfl ?_
        refine OpsW.guard_un rfl rfl rfl ?_
        refine OpsW.guard_no rfl rfl rfl ?_
        refine OpsW.det (det_pick rfl rfl) rfl ?_
        refine sNext ?_
        refine W.keep (F' := [(59, _), (10, _), (9, _)]) ⟨rfl, rfl, rfl, trivial⟩ ?_
        refine W.cond_true rfl ?_
        refine sSeq ?_
        refine W.region ?_
        refine OpsW.det (det_assign rfl) rfl ?_
        refine OpsW.det (det_assign rfl) rfl ?_
        refine OpsW.det (det_assign rfl) rfl ?_
        refine OpsW.det (det_assign rfl) rfl ?_
        refine sNext ?_
        refine W.keep (F' := [(7, _), (6, _), (5, _), (4, _)]) ⟨rfl, rfl, rfl, rfl, trivial⟩ ?_
        refine sRet ?_
        refine cutRet ?_
        exact done4 Tryd.results53 (rv_tmp rfl) (rv_tmp rfl) (rv_tmp rfl) (rv_tmp rfl) (head_no (mark_bad hlen (by unfold badM; rw [hs, hl, hf, hsh]; rfl)))
      · skip
        refine W.region ?_
        refine OpsW.det (det_move rfl) rfl ?_
        refine OpsW.det (det_and rfl rfl) rfl ?_
        refine OpsW.det (Det.to ((det_neq (b := 0) rfl rfl)) (congrArg Value.bool ((bits_at (b0_lt hB.small hpos)).2.1.trans hs))) rfl ?_
        refine OpsW.det (det_move rfl) rfl ?_
        refine OpsW.det (Det.to (det_neqb u4 rfl rfl) (congrArg Value.bool (rfl))) rfl ?_
        refine OpsW.det (det_move rfl) rfl ?_
        refine OpsW.guard_yes rfl rfl ?_
        refine OpsW.det (det_move rfl) rfl ?_
        refine OpsW.guard_yes rfl rfl ?_
        refine OpsW.det (det_and rfl rfl) rfl ?_
        refine OpsW.guard_yes rfl rfl ?_
        refine OpsW.det (Det.to ((det_neq (b := 0) rfl rfl)) (congrArg Value.bool ((bits_at (b0_lt hB.small hpos)).2.2.2.1.trans hl))) rfl ?_
        refine OpsW.guard_yes rfl rfl ?_
        refine OpsW.det (det_move rfl) rfl ?_
        refine OpsW.guard_yes rfl rfl ?_
        refine OpsW.det (det_move rfl) rfl ?_
        refine OpsW.guard_yes rfl rfl ?_
        refine OpsW.det (det_not rfl) rfl ?_
        refine OpsW.guard_yes rfl rfl ?_
        refine OpsW.det (det_move rfl) rfl ?_
        refine OpsW.guard_yes rfl rfl ?_
        refine OpsW.det (det_move rfl) rfl ?_
        refine OpsW.guard_yes rfl rfl ?_
        refine OpsW.det (det_and rfl rfl) rfl ?_
        refine OpsW.guard_yes rfl rfl ?_
        refine OpsW.det (Det.to ((det_neq (b := 0) rfl rfl)) (congrArg Value.bool ((bits_at (b0_lt hB.small hpos)).2.2.1.trans hf))) rfl ?_
        refine OpsW.guard_yes rfl rfl ?_
        refine OpsW.det (det_pick rfl rfl) rfl ?_
        refine OpsW.guard_yes rfl rfl ?_
        refine OpsW.det (det_pick rfl rfl) rfl ?_
        refine OpsW.det (det_pick rfl rfl) rfl ?_
        refine sNext ?_
        refine W.keep (F' := [(59, _), (10, _), (9, _)]) ⟨rfl, rfl, rfl, trivial⟩ ?_
        refine W.cond_false rfl ?_
        refine sSkip0 ?_
        exact cutOk () (by unfold badM; rw [hs, hl, hf, hsh]; rfl) ⟨rfl, rfl, trivial⟩ (List.Sublist.refl _)
      · skip
        refine W.region ?_
        refine OpsW.det (det_move rfl) rfl ?_
        refine OpsW.det (det_and rfl rfl) rfl ?_
        refine OpsW.det (Det.to ((det_neq (b := 0) rfl rfl)) (congrArg Value.bool ((bits_at (b0_lt hB.small hpos)).2.1.trans hs))) rfl ?_
        refine OpsW.det (det_move rfl) rfl ?_
        refine OpsW.det (Det.to (det_neqb u4 rfl rfl) (congrArg Value.bool (rfl))) rfl ?_
        refine OpsW.det (det_move rfl) rfl ?_
        refine OpsW.guard_no rfl rfl rfl ?_
        refine OpsW.guard_no rfl rfl rfl ?_
        refine OpsW.guard_no rfl rfl rfl ?_
        refine OpsW.guard_no rfl rfl rfl ?_
        refine OpsW.guard_un rfl rfl rfl ?_
        refine OpsW.guard_un rfl rfl rfl ?_
        refine OpsW.guard_un rfl rfl rfl ?_
        refine OpsW.guard_un rfl rfl rfl ?_
        refine OpsW.guard_un rfl rfl rfl ?_
        refine OpsW.guard_un rfl rfl rfl ?_
        refine OpsW.guard_un rfl rfl rfl ?_
        refine OpsW.guard_no rfl rfl rfl ?_
        refine OpsW.det (det_pick rfl rfl) rfl ?_
        refine sNext ?_
        refine W.keep (F' := [(59, _), (10, _), (9, _)]) ⟨rfl, rfl, rfl, trivial⟩ ?_
        refine W.cond_true rfl ?_
        refine sSeq ?_
        refine W.region ?_
        refine OpsW.det (det_assign rfl) rfl ?_
        refine OpsW.det (det_assign rfl) rfl ?_
        refine OpsW.det (det_assign rfl) rfl ?_
        refine OpsW.det (det_assign rfl) rfl ?_
        refine sNext ?_
        refine W.keep (F' := [(7, _), (6, _), (5, _), (4, _)]) ⟨rfl, rfl, rfl, rfl, trivial⟩ ?_
        refine sRet ?_
        refine cutRet ?_
        exact done4 Tryd.results53 (rv_tmp rfl) (rv_tmp rfl) (rv_tmp rfl) (rv_tmp rfl) (head_no (mark_bad hlen (by unfold badM; rw [hs, hl, hf, hsh]; rfl)))
      · skip
        refine W.region ?_
        refine OpsW.det (det_move rfl) rfl ?_
        refine OpsW.det (det_and rfl rfl) rfl ?_
        refine OpsW.det (Det.to ((det_neq (b := 0) rfl rfl)) (congrArg Value.bool ((bits_at (b0_lt hB.small hpos)).2.1.trans hs))) rfl ?_
        refine OpsW.det (det_move rfl) rfl ?_
        refine OpsW.det (Det.to (det_neqb u4 rfl rfl) (congrArg Value.bool (rfl))) rfl ?_
        refine OpsW.det (det_move rfl) rfl ?_
        refine OpsW.guard_yes rfl rfl ?_
        refine OpsW.det (det_move rfl) rfl ?_
        refine OpsW.guard_yes rfl rfl ?_
        refine OpsW.det (det_and rfl rfl) rfl ?_
        refine OpsW.guard_yes rfl rfl ?_
        refine OpsW.det (Det.to ((det_neq (b := 0) rfl rfl)) (congrArg Value.bool ((bits_at (b0_lt hB.small hpos)).2.2.2.1.trans hl))) rfl ?_
        refine OpsW.guard_yes rfl rfl ?_
        refine OpsW.det (det_move rfl) rfl ?_
        refine OpsW.guard_yes rfl rfl ?_
        refine OpsW.det (det_move rfl) rfl ?_
        refine OpsW.guard_yes rfl rfl ?_
        refine OpsW.det (det_not rfl) rfl ?_
        refine OpsW.guard_yes rfl rfl ?_
        refine OpsW.det (det_move rfl) rfl ?_
        refine OpsW.guard_yes rfl rfl ?_
        refine OpsW.det (det_move rfl) rfl ?_
        refine OpsW.guard_yes rfl rfl ?_
        refine OpsW.det (det_and rfl rfl) rfl ?_
        refine OpsW.guard_yes rfl rfl ?_
        refine OpsW.det (Det.to ((det_neq (b := 0) rfl rfl)) (congrArg Value.bool ((bits_at (b0_lt hB.small hpos)).2.2.1.trans hf))) rfl ?_
        refine OpsW.guard_yes rfl rfl ?_
        refine OpsW.det (det_pick rfl rfl) rfl ?_
        refine OpsW.guard_yes rfl rfl ?_
        refine OpsW.det (det_pick rfl rfl) rfl ?_
        refine OpsW.det (det_pick rfl rfl) rfl ?_
        refine sNext ?_
        refine W.keep (F' := [(59, _), (10, _), (9, _)]) ⟨rfl, rfl, rfl, trivial⟩ ?_
        refine W.cond_true rfl ?_
        refine sSeq ?_
        refine W.region ?_
        refine OpsW.det (det_assign rfl) rfl ?_
        refine OpsW.det (det_assign rfl) rfl ?_
        refine OpsW.det (det_assign rfl) rfl ?_
        refine OpsW.det (det_assign rfl) rfl ?_
        refine sNext ?_
        refine W.keep (F' := [(7, _), (6, _), (5, _), (4, _)]) ⟨rfl, rfl, rfl, rfl, trivial⟩ ?_
        refine sRet ?_
        refine cutRet ?_
        exact done4 Tryd.results53 (rv_tmp rfl) (rv_tmp rfl) (rv_tmp rfl) (rv_tmp rfl) (head_no (mark_bad hlen (by unfold badM; rw [hs, hl, hf, hsh]; rfl)))
    · skip
      rintro - hbad
      refine sSeq ?_
      refine sSeq ?_
      refine W.region ?_
      refine OpsW.det (det_move rfl) rfl ?_
      refine OpsW.det (det_and rfl rfl) rfl ?_
      refine OpsW.det ((det_neq (b := 0) rfl rfl).to (v := .bool (fB (b0 l))) (congrArg Value.bool (bits_at (b0_lt hB.small hpos)).2.2.1)) rfl ?_
      refine sNext ?_
      refine W.keep (F' := [(62, _), (10, _), (9, _)]) ⟨rfl, rfl, rfl, trivial⟩ ?_
      refine W.cond rfl (fun hc62 => ?_) (fun hc62 => ?_)
      · skip
        refine sSeq ?_
        refine W.region ?_
        refine OpsW.det (det_move rfl) rfl ?_
        refine OpsW.det (det_len u22 rfl) rfl ?_
        refine OpsW.det (det_move rfl) rfl ?_
        refine sNext ?_
        refine W.keep (F' := [(65, _), (64, _), (63, _), (10, _), (9, _)]) ⟨rfl, rfl, rfl, rfl, rfl, trivial⟩ ?_
        refine sBlock ?_
        refine sLoop (σ := Nat) (fun i => [(65, .int .i64 (i : Nat)), (64, .int .i64 ((0 + l.length : Nat) : Int)), (63, .slice (some ⟨bn, 0, none⟩) (0 + l.length) capn), (10, .slice (some ⟨bn, 0, none⟩) (0 + l.length) capn), (9, .int .u8 ((b0 l / 32 * 32 : Nat) : Int))]) (fun i => [(bn, blk (bcells (cl l) ++ spn) 5)]) (fun i => i ≤ l.length ∧ ∀ j (hj : j < (cl l).length), j < i → (cl l)[j] = 0) (fun i => l.length - i) 0 ⟨Nat.zero_le _, fun j hj h => absurd h (Nat.not_lt_zero _)⟩ ⟨rfl, rfl, rfl, rfl, rfl, trivial⟩ (List.Sublist.refl _) ?_
        rintro i ⟨hi, hI0⟩
        refine sSeq ?_
        refine W.region ?_
        refine OpsW.det (det_lss rfl rfl) rfl ?_
        refine sNext ?_
        refine sSeq ?_
        refine W.cond rfl (fun hc66 => ?_) (fun hc66 => ?_)
        · skip
          have hlt : i < (cl l).length := by have h := hc66; simp only [decide_eq_true_eq] at h; rw [cl_len hpos]; omega
          have hlt2 : i < l.length := by rw [cl_len hpos] at hlt; exact hlt
          refine sSkip ?_
          refine sSeq ?_
          refine sBlock ?_
          refine sSeq ?_
          refine W.region ?_
          refine OpsW.det (det_indexAddr_sl u22 sz5 rfl rfl ⟨by omega, by omega⟩) rfl ?_
          refine OpsW.det (det_loadC ty5 rfl (List.Mem.head _) (bc_at hlt)) rfl ?_
          refine OpsW.det (det_assign rfl) rfl ?_
          refine sNext ?_
          refine W.keep (F' := [(12, _), (65, _), (64, _), (63, _), (10, _), (9, _)]) ⟨rfl, rfl, rfl, rfl, rfl, rfl, trivial⟩ ?_
          refine sSeq ?_
          refine W.region ?_
          refine OpsW.det (det_move rfl) rfl ?_
          refine OpsW.det ((det_neq (a := (((cl l)[i] : Nat) : Int)) (b := 0) rfl rfl)) rfl ?_
          refine sNext ?_
          refine W.keep (F' := [(70, _), (65, _), (64, _), (63, _), (10, _), (9, _)]) ⟨rfl, rfl, rfl, rfl, rfl, rfl, trivial⟩ ?_
          refine W.cond rfl (fun hc70 => ?_) (fun hc70 => ?_)
          · skip
            refine sSeq ?_
            refine W.region ?_
            refine OpsW.det (det_assign rfl) rfl ?_
            refine OpsW.det (det_assign rfl) rfl ?_
            refine OpsW.det (det_assign rfl) rfl ?_
            refine OpsW.det (det_assign rfl) rfl ?_
            refine sNext ?_
            refine W.keep (F' := [(7, _), (6, _), (5, _), (4, _)]) ⟨rfl, rfl, rfl, rfl, trivial⟩ ?_
            refine sRet ?_
            refine retBlk ?_
            refine retLoop ?_
            refine retBlk ?_
            exact done4 Tryd.results53 (rv_tmp rfl) (rv_tmp rfl) (rv_tmp rfl) (rv_tmp rfl) (head_no (mark_dirty hlen hbad hc62 (cl_dirty hpos (b0_lt hB.small hpos) hlt (by have h := hc70; simp at h; omega))))
          · skip
            refine sSkip0 ?_
            refine bNext ?_
            refine W.keep (F' := [(65, _), (64, _), (63, _), (10, _), (9, _)]) ⟨rfl, rfl, rfl, rfl, rfl, trivial⟩ ?_
            refine W.region ?_
            refine OpsW.det (det_addN (b := 1) rfl rfl (by omega)) rfl ?_
            refine OpsW.det (det_move rfl) rfl ?_
            refine sLast ?_
            exact rEnd (i + 1) ⟨by rw [cl_len hpos] at hlt; exact hlt, fun j hj h2 => by
            by_cases e : j = i
            · subst e; have h := hc70; simp at h; omega
            · exact hI0 j hj (by omega)⟩ ⟨rfl, rfl, rfl, rfl, rfl, trivial⟩ (List.Sublist.refl _) (by rw [cl_len hpos] at hlt; exact step_lt hlt)
        · skip
          have hi4 : i = l.length := by have h := hc66; simp only [decide_eq_false_iff_not] at h; omega
          subst hi4
          have hI : ∀ j (hj : j < (cl l).length), (cl l)[j] = 0 := fun j hj => hI0 j hj (by rw [cl_len hpos] at hj; exact hj)
          refine sExit ?_
          refine xLoop ?_
          refine xHere ?_
          refine W.keep (F' := [(10, _), (9, _)]) ⟨rfl, rfl, trivial⟩ ?_
          refine sSeq ?_
          refine W.region ?_
          refine OpsW.det (det_move rfl) rfl ?_
          refine OpsW.det (det_move rfl) rfl ?_
          refine OpsW.det (det_and rfl rfl) rfl ?_
          refine OpsW.det ((det_neq (b := 0) rfl rfl).to (v := .bool (fB (b0 l))) (congrArg Value.bool (bits_at (b0_lt hB.small hpos)).2.2.1)) rfl ?_
          refine OpsW.det (det_move rfl) rfl ?_
          refine OpsW.det (det_and rfl rfl) rfl ?_
          refine OpsW.det ((det_neq (b := 0) rfl rfl).to (v := .bool (lB (b0 l))) (congrArg Value.bool (bits_at (b0_lt hB.small hpos)).2.2.2.1)) rfl ?_
          refine OpsW.det (det_assign rfl) rfl ?_
          refine OpsW.det (det_assign rfl) rfl ?_
          refine OpsW.det (det_assign rfl) rfl ?_
          refine OpsW.det (det_assign rfl) rfl ?_
          refine sNext ?_
          refine W.keep (F' := [(7, _), (6, _), (5, _), (4, _)]) ⟨rfl, rfl, rfl, rfl, trivial⟩ ?_
          refine sRet ?_
          exact absurd (congrArg Prod.fst (mark_ok hlen hbad (by rw [cl_clean hpos (b0_lt hB.small hpos) hI]; simp))) hE
      · skip
        refine sSkip ?_
        refine sSeq ?_
        refine W.region ?_
        refine OpsW.det (det_move rfl) rfl ?_
        refine OpsW.det (det_move rfl) rfl ?_
        refine OpsW.det (det_and rfl rfl) rfl ?_
        refine OpsW.det ((det_neq (b := 0) rfl rfl).to (v := .bool (fB (b0 l))) (congrArg Value.bool (bits_at (b0_lt hB.small hpos)).2.2.1)) rfl ?_
        refine OpsW.det (det_move rfl) rfl ?_
        refine OpsW.det (det_and rfl rfl) rfl ?_
        refine OpsW.det ((det_neq (b := 0) rfl rfl).to (v := .bool (lB (b0 l))) (congrArg Value.bool (bits_at (b0_lt hB.small hpos)).2.2.2.1)) rfl ?_
        refine OpsW.det (det_assign rfl) rfl ?_
        refine OpsW.det (det_assign rfl) rfl ?_
        refine OpsW.det (det_assign rfl) rfl ?_
        refine OpsW.det (det_assign rfl) rfl ?_
        refine sNext ?_
        refine W.keep (F' := [(7, _), (6, _), (5, _), (4, _)]) ⟨rfl, rfl, rfl, rfl, trivial⟩ ?_
        refine sRet ?_
        exact absurd (congrArg Prod.fst (mark_ok hlen hbad (by rw [hc62]; simp))) hE
set_option maxHeartbeats 8000000 in
theorem chead_ok_ok {G' : Hp} {v : Value} {l : List Nat} {n : Nat} (hB : Bs G' v l) (hn : 0 < n) (hn2 : n ≤ 1000000) (hlen0 : l.length ≤ 1000000) (hE : (markE l n).1 = 0) {w : World} (hG : Blocks (G' ++ GH T) w)  : Makes Tryd.prog 53 #[v, .int .i64 ((n : Nat) : Int)] w (fun p => .tuple #[.slice (some ⟨p.1, 0, none⟩) l.length p.2.1, .bool (fB (b0 l)), .bool (lB (b0 l)), .int .i64 0]) (fun p => [(p.1, blk (bcells (cl l) ++ p.2.2) 5)]) (fun p => (bcells (cl l) ++ p.2.2).length = p.2.1 * 1 ∧ l.length ≤ p.2.1) := by
  obtain ⟨ad, cap, hvv⟩ := hB.shape
  subst hvv
  refine makes_of_W (n := 79) (args := [.slice ad l.length cap, .int .i64 ((n : Nat) : Int)]) Tryd.func53 rfl Tryd.ntmps53 (Nat.le_of_ble_eq_true rfl) hG ?_
  refine sStart ?_
  refine sSeq ?_
  refine W.region ?_
  refine OpsW.det (det_assign rfl) rfl ?_
  refine OpsW.det (det_assign rfl) rfl ?_
  refine OpsW.det (det_assign rfl) rfl ?_
  refine OpsW.det (det_assign rfl) rfl ?_
  refine sNext ?_
  refine W.keep (F' := [(0, _), (1, _)]) ⟨rfl, rfl, trivial⟩ ?_
  refine sSeq ?_
  refine sSeq ?_
  refine sCut2 (σ := Unit) (fun _s => [(0, .slice ad l.length cap), (1, .int .i64 ((n : Nat) : Int))]) (fun _s => []) (fun _s => l.length = n ∨ l.length = 2 * n) ?_ ?_
  · skip
    refine W.region ?_
    refine OpsW.det (det_move rfl) rfl ?_
    refine OpsW.det (det_len u22 rfl) rfl ?_
    refine OpsW.det (det_move rfl) rfl ?_
    refine OpsW.test ((det_neq (a := (l.length : Int)) (b := (n : Int)) rfl rfl)) rfl (fun hc16 => ?_) (fun hc16 => ?_)
    · skip
      refine OpsW.det (det_move rfl) rfl ?_
      refine OpsW.guard_yes rfl rfl ?_
      refine OpsW.det (det_move rfl) rfl ?_
      refine OpsW.guard_yes rfl rfl ?_
      refine OpsW.det (det_len u22 rfl) rfl ?_
      refine OpsW.guard_yes rfl rfl ?_
      refine OpsW.det (det_move rfl) rfl ?_
      refine OpsW.guard_yes rfl rfl ?_
      refine OpsW.det ((det_mul (a := 2) (b := ((n : Nat) : Int)) rfl rfl).to (v := .int .i64 ((2 * n : Nat) : Int)) (by rw [wrap_i64 (by omega)]; congr 1)) rfl ?_
      refine OpsW.guard_yes rfl rfl ?_
      refine OpsW.det ((det_neq (a := (l.length : Int)) (b := ((2 * n : Nat) : Int)) rfl rfl)) rfl ?_
      refine OpsW.det (det_pick rfl rfl) rfl ?_
      refine sNext ?_
      refine W.keep (F' := [(23, _), (0, _), (1, _)]) ⟨rfl, rfl, rfl, trivial⟩ ?_
      refine W.cond rfl (fun hc23 => ?_) (fun hc23 => ?_)
      · skip
        have hne1 : l.length ≠ n := fun h2 => by have h := hc16; rw [h2] at h; simp at h
        have hne2 : l.length ≠ 2 * n := fun h2 => by have h := hc23; rw [h2] at h; simp at h
        refine sSeq ?_
        refine W.region ?_
        refine OpsW.det (det_assign rfl) rfl ?_
        refine OpsW.det (det_assign rfl) rfl ?_
        refine OpsW.det (det_assign rfl) rfl ?_
        refine OpsW.det (det_assign rfl) rfl ?_
        refine sNext ?_
        refine W.keep (F' := [(7, _), (6, _), (5, _), (4, _)]) ⟨rfl, rfl, rfl, rfl, trivial⟩ ?_
        refine sRet ?_
        refine cutRet ?_
        exact (head_abs (mark_len hne1 hne2) hE (by decide)).elim
      · skip
        refine sSkip0 ?_
        exact cutOk () (by have h := hc23; simp at h; omega) ⟨rfl, rfl, trivial⟩ (List.nil_sublist _)
    · skip
      refine OpsW.det (det_move rfl) rfl ?_
      refine OpsW.guard_no rfl rfl rfl ?_
      refine OpsW.guard_no rfl rfl rfl ?_
      refine OpsW.guard_no rfl rfl rfl ?_
      refine OpsW.guard_no rfl rfl rfl ?_
      refine OpsW.guard_no rfl rfl rfl ?_
      refine OpsW.det (det_pick rfl rfl) rfl ?_
      refine sNext ?_
      refine W.keep (F' := [(23, _), (0, _), (1, _)]) ⟨rfl, rfl, rfl, trivial⟩ ?_
      refine W.cond_false rfl ?_
      refine sSkip0 ?_
      exact cutOk () (by have h := hc16; simp at h; omega) ⟨rfl, rfl, trivial⟩ (List.nil_sublist _)
  · skip
    rintro - hlen
    have hpos : 0 < l.length := by omega
    obtain ⟨bk0, o0, cap0, cs0, e0, fr0, hv0, hm0, hcell0⟩ := hB.at_ 0 hpos
    simp only [Value.slice.injEq] at hv0
    obtain ⟨rfl, _, rfl⟩ := hv0
    refine sSeq ?_
    refine W.region ?_
    refine OpsW.det (det_move rfl) rfl ?_
    refine OpsW.det (det_len u22 rfl) rfl ?_
    refine OpsW.det (det_move rfl) rfl ?_
    refine OpsW.det ((det_eql (a := (l.length : Int)) (b := (n : Int)) rfl rfl).to (v := .bool (decide (l.length = n))) (congrArg Value.bool (by rw [Bool.eq_iff_iff, beq_iff_eq, decide_eq_true_iff]; omega))) rfl ?_
    refine OpsW.det (det_assign rfl) rfl ?_
    refine sNext ?_
    refine W.keep (F' := [(8, _), (0, _)]) ⟨rfl, rfl, trivial⟩ ?_
    refine sSeq ?_
    refine W.region ?_
    refine OpsW.det (det_move rfl) rfl ?_
    refine OpsW.det (det_indexAddr_sl u22 sz5 rfl rfl ⟨by decide, by omega⟩) rfl ?_
    refine OpsW.det (det_loadC_ro ty5 rfl (List.mem_append_left _ hm0) (b0_at hpos hcell0)) rfl ?_
    refine OpsW.det ((det_shr (b := 5) rfl rfl (by decide)).to (v := .int .u8 ((b0 l / 32 : Nat) : Int)) (congrArg (Value.int .u8) (shr5 (b0_lt hB.small hpos)))) rfl ?_
    refine OpsW.det ((det_shl (b := 5) rfl rfl (by decide)).to (v := .int .u8 ((b0 l / 32 * 32 : Nat) : Int)) (congrArg (Value.int .u8) (shl5 (b0_lt hB.small hpos)))) rfl ?_
    refine OpsW.det (det_assign rfl) rfl ?_
    refine sNext ?_
    refine W.keep (F' := [(9, _), (8, _), (0, _)]) ⟨rfl, rfl, rfl, trivial⟩ ?_
    refine sSeq ?_
    refine W.region ?_
    refine OpsW.det (det_move rfl) rfl ?_
    obtain ⟨bka, oa, capa, csa, ea, fra, hva, hma, _, hcella⟩ := hB.all hpos
    simp only [Value.slice.injEq, Option.some.injEq, Addr.mk.injEq] at hva
    obtain ⟨⟨rfl, rfl, _⟩, _, rfl⟩ := hva
    refine OpsW.append (hp := []) (len := 0) (xs := []) (news := bcells l) ty22 rfl .nil rfl (.inr (List.mem_append_left _ hma)) (by rw [bcells_length, Nat.mul_one]) (fun j u hj => by have h := hj; unfold bcells at h; rw [List.getElem?_map, Option.map_eq_some_iff] at h; obtain ⟨z, hz, rfl⟩ := h; obtain ⟨hj2, rfl⟩ := List.getElem?_eq_some_iff.1 hz; exact hcella j hj2) (bcells_all1 l) (by show 0 + l.length ≤ 9223372036854775807; omega) (by omega) rfl ?_
    intro v' hp' hsl
    obtain ⟨bn, capn, spn, rfl, rfl, h2n, h3n⟩ := isSl_pos hsl (by omega)
    refine OpsW.norm (F' := [(34, .slice (some ⟨bn, 0, none⟩) (0 + l.length) capn), (33, _), (9, _), (8, _), (0, _)]) (H' := [(bn, blk (bcells l ++ spn) 5)]) rfl rfl ?_
    refine OpsW.det (det_assign rfl) rfl ?_
    refine sNext ?_
    refine W.keep (F' := [(10, _), (9, _), (8, _)]) ⟨rfl, rfl, rfl, trivial⟩ ?_
    refine sSeq ?_
    refine W.region ?_
    refine OpsW.det (det_move rfl) rfl ?_
    refine OpsW.det (det_indexAddr_sl u22 sz5 rfl rfl ⟨by decide, by omega⟩) rfl ?_
    refine OpsW.det (det_loadC ty5 rfl (List.Mem.head _) (bc_at0 hpos)) rfl ?_
    refine OpsW.det (det_move rfl) rfl ?_
    refine OpsW.det ((det_andNot rfl rfl).to (v := .int .u8 ((b0 l % 32 : Nat) : Int)) (congrArg (Value.int .u8) (bits_at (b0_lt hB.small hpos)).1)) rfl ?_
    refine OpsW.det (det_indexAddr_sl u22 sz5 rfl rfl ⟨by decide, by omega⟩) rfl ?_
    refine OpsW.store sz5 rfl rfl rfl rfl rfl (Upd.here) (cl_put hpos) ?_
    refine sNext ?_
    refine W.keep (F' := [(10, _), (9, _), (8, _)]) ⟨rfl, rfl, rfl, trivial⟩ ?_
    refine sSeq ?_
    refine sSeq ?_
    refine sCut2 (σ := Unit) (fun _s => [(10, .slice (some ⟨bn, 0, none⟩) (0 + l.length) capn), (9, .int .u8 ((b0 l / 32 * 32 : Nat) : Int))]) (fun _s => [(bn, blk (bcells (cl l) ++ spn) 5)]) (fun _s => badM l n = false) ?_ ?_
    · skip
      rcases hs : sB (b0 l) with _ | _ <;> rcases hl : lB (b0 l) with _ | _ <;> rcases hf : fB (b0 l) with _ | _ <;> rcases hsh : decide (l.length = n) with _ | _
      · skip
        refine W.region ?_
        refine OpsW.det (det_move rfl) rfl ?_
        refine OpsW.det (det_and rfl rfl) rfl ?_
        refine OpsW.det (Det.to ((det_neq (b := 0) rfl rfl)) (congrArg Value.bool ((bits_at (b0_lt hB.small hpos)).2.1.trans hs))) rfl ?_
        refine OpsW.det (det_move rfl) rfl ?_
        refine OpsW.det (Det.to (det_neqb u4 rfl rfl) (congrArg Value.bool (rfl))) rfl ?_
        refine OpsW.det (det_move rfl) rfl ?_
        refine OpsW.guard_yes rfl rfl ?_
        refine OpsW.det (det_move rfl) rfl ?_
        refine OpsW.guard_yes rfl rfl ?_
        refine OpsW.det (det_and rfl rfl) rfl ?_
        refine OpsW.guard_yes rfl rfl ?_
        refine OpsW.det (Det.to ((det_neq (b := 0) rfl rfl)) (congrArg Value.bool ((bits_at (b0_lt hB.small hpos)).2.2.2.1.trans hl))) rfl ?_
        refine OpsW.guard_yes rfl rfl ?_
        refine OpsW.det (det_move rfl) rfl ?_
        refine OpsW.guard_no rfl rfl rfl ?_
        refine OpsW.guard_no rfl rfl rfl ?_
        refine OpsW.guard_no rfl rfl rfl ?_
        refine OpsW.guard_un rfl rfl rfl ?_
        refine OpsW.guard_un rfl rfl rfl ?_
        refine OpsW.guard_un rfl rfl rfl ?_
        refine OpsW.guard_no rfl rfl rfl ?_
        refine OpsW.guard_yes rfl rfl ?_
        refine OpsW.det (det_pick rfl rfl) rfl ?_
        refine OpsW.det (det_pick rfl rfl) rfl ?_
        refine sNext ?_
        refine W.keep (F' := [(59, _), (10, _), (9, _)]) ⟨rfl, rfl, rfl, trivial⟩ ?_
        refine W.cond_false rfl ?_
        refine sSkip0 ?_
        exact cutOk () (by unfold badM; rw [hs, hl, hf, hsh]; rfl) ⟨rfl, rfl, trivial⟩ (List.Sublist.refl _)
      · skip
        refine W.region ?_
        refine OpsW.det (det_move rfl) rfl ?_
        refine OpsW.det (det_and rfl rfl) rfl ?_
        refine OpsW.det (Det.to ((det_neq (b := 0) rfl rfl)) (congrArg Value.bool ((bits_at (b0_lt hB.small hpos)).2.1.trans hs))) rfl ?_
        refine OpsW.det (det_move rfl) rfl ?_
        refine OpsW.det (Det.to (det_neqb u4 rfl rfl) (congrArg Value.bool (rfl))) rfl ?_
        refine OpsW.det (det_move rfl) rfl ?_
        refine OpsW.guard_no rfl rfl rfl ?_
        refine OpsW.guard_no rfl rfl rfl ?_
        refine OpsW.guard_no rfl rfl rfl ?_
        refine OpsW.guard_no rfl rfl rfl ?_
        refine OpsW.guard_un rfl rfl rfl ?_
        refine OpsW.guard_un rfl rfl rfl ?_
        refine OpsW.guard_un rfl rfl rfl ?_
        refine OpsW.guard_un rfl rfl rfl ?_
        refine OpsW.guard_un rfl rfl rfl ?_
        refine OpsW.guard_un rfl rfl rfl ?_
        refine OpsW.guard_un rfl rfl rfl ?_
        refine OpsW.guard_no rfl rfl rfl ?_
        refine OpsW.det (det_pick rfl rfl) rfl ?_
        refine sNext ?_
        refine W.keep (F' := [(59, _), (10, _), (9, _)]) ⟨rfl, rfl, rfl, trivial⟩ ?_
        refine W.cond_true rfl ?_
        refine sSeq ?_
        refine W.region ?_
        refine OpsW.det (det_assign rfl) rfl ?_
        refine OpsW.det (det_assign rfl) rfl ?_
        refine OpsW.det (det_assign rfl) rfl ?_
        refine OpsW.det (det_assign rfl) rfl ?_
        refine sNext ?_
        refine W.keep (F' := [(7, _), (6, _), (5, _), (4, _)]) ⟨rfl, rfl, rfl, rfl, trivial⟩ ?_
        refine sRet ?_
        refine cutRet ?_
        exact (head_abs (mark_bad hlen (by unfold badM; rw [hs, hl, hf, hsh]; rfl)) hE (by decide)).elim
      · skip
        refine W.region ?_
        refine OpsW.det (det_move rfl) rfl ?_
        refine OpsW.det (det_and rfl rfl) rfl ?_
        refine OpsW.det (Det.to ((det_neq (b := 0) rfl rfl)) (congrArg Value.bool ((bits_at (b0_lt hB.small hpos)).2.1.trans hs))) rfl ?_
        refine OpsW.det (det_move rfl) rfl ?_
        refine OpsW.det (Det.to (det_neqb u4 rfl rfl) (congrArg Value.bool (rfl))) rfl ?_
        refine OpsW.det (det_move rfl) rfl ?_
        refine OpsW.guard_yes rfl rfl ?_
        refine OpsW.det (det_move rfl) rfl ?_
        refine OpsW.guard_yes rfl rfl ?_
        refine OpsW.det (det_and rfl rfl) rfl ?_
        refine OpsW.guard_yes rfl rfl ?_
        refine OpsW.det (Det.to ((det_neq (b := 0) rfl rfl)) (congrArg Value.bool ((bits_at (b0_lt hB.small hpos)).2.2.2.1.trans hl))) rfl ?_
        refine OpsW.guard_yes rfl rfl ?_
        refine OpsW.det (det_move rfl) rfl ?_
        refine OpsW.guard_no rfl rfl rfl ?_
        refine OpsW.guard_no rfl rfl rfl ?_
        refine OpsW.guard_no rfl rfl rfl ?_
        refine OpsW.guard_un rfl rfl rfl ?_
        refine OpsW.guard_un rfl rfl rfl ?_
        refine OpsW.guard_un rfl rfl rfl ?_
        refine OpsW.guard_no rfl rfl rfl ?_
        refine OpsW.guard_yes rfl rfl ?_
        refine OpsW.det (det_pick rfl rfl) rfl ?_
        refine OpsW.det (det_pick rfl rfl) rfl ?_
        refine sNext ?_
        refine W.keep (F' := [(59, _), (10, _), (9, _)]) ⟨rfl, rfl, rfl, trivial⟩ ?_
        refine W.cond_false rfl ?_
        refine sSkip0 ?_
        exact cutOk () (by unfold badM; rw [hs, hl, hf, hsh]; rfl) ⟨rfl, rfl, trivial⟩ (List.Sublist.refl _)
      · skip
        refine W.region ?_
        refine OpsW.det (det_move rfl) rfl ?_
        refine OpsW.det (det_and rfl rfl) rfl ?_
        refine OpsW.det (Det.to ((det_neq (b := 0) rfl rfl)) (congrArg Value.bool ((bits_at (b0_lt hB.small hpos)).2.1.trans hs))) rfl ?_
        refine OpsW.det (det_move rfl) rfl ?_
        refine OpsW.det (Det.to (det_neqb u4 rfl rfl) (congrArg Value.bool (rfl))) rfl ?_
        refine OpsW.det (det_move rfl) rfl ?_
        refine OpsW.guard_no rfl rfl rfl ?_
        refine OpsW.guard_no rfl rfl rfl ?_
        refine OpsW.guard_no rfl rfl rfl ?_
        refine OpsW.guard_no rfl rfl rfl ?_
        refine OpsW.guard_un rfl rfl rfl ?_
        refine OpsW.guard_un rfl rfl rfl ?_
        refine OpsW.guard_un rfl rfl rfl ?_
        refine OpsW.guard_un rfl rfl rfl ?_
        refine OpsW.guard_un rfl rfl rfl ?_
        refine OpsW.guard_un rfl rfl rfl ?_
        refine OpsW.guard_un rfl rfl rfl ?_
        refine OpsW.guard_no rfl rfl rfl ?_
        refine OpsW.det (det_pick rfl rfl) rfl ?_
        refine sNext ?_
        refine W.keep (F' := [(59, _), (10, _), (9, _)]) ⟨rfl, rfl, rfl, trivial⟩ ?_
        refine W.cond_true rfl ?_
        refine sSeq ?_
        refine W.region ?_
        refine OpsW.det (det_assign rfl) rfl ?_
        refine OpsW.det (det_assign rfl) rfl ?_
        refine OpsW.det (det_assign rfl) rfl ?_
        refine OpsW.det (det_assign rfl) rfl ?_
        refine sNext ?_
        refine W.keep (F' := [(7, _), (6, _), (5, _), (4, _)]) ⟨rfl, rfl, rfl, rfl, trivial⟩ ?_
        refine sRet ?_
        refine cutRet ?_
        exact (head_abs (mark_bad hlen (by unfold badM; rw [hs, hl, hf, hsh]; rfl)) hE (by decide)).elim
      · skip
        refine W.region ?_
        refine OpsW.det (det_move rfl) rfl ?_
        refine OpsW.det (det_and rfl rfl) rfl ?_
        refine OpsW.det (Det.to ((det_neq (b := 0) rfl rfl)) (congrArg Value.bool ((bits_at (b0_lt hB.small hpos)).2.1.trans hs))) rfl ?_
        refine OpsW.det (det_move rfl) rfl ?_
        refine OpsW.det (Det.to (det_neqb u4 rfl rfl) (congrArg Value.bool (rfl))) rfl ?_
        refine OpsW.det (det_move rfl) rfl ?_
        refine OpsW.guard_yes rfl rfl ?_
        refine OpsW.det (det_move rfl) rfl ?_
        refine OpsW.guard_yes rfl rfl ?_
        refine OpsW.det (det_and rfl rfl) rfl ?_
        refine OpsW.guard_yes rfl rfl ?_
        refine OpsW.det (Det.to ((det_neq (b := 0) rfl rfl)) (congrArg Value.bool ((bits_at (b0_lt hB.small hpos)).2.2.2.1.trans hl))) rfl ?_
        refine OpsW.guard_yes rfl rfl ?_
        refine OpsW.det (det_move rfl) rfl ?_
        refine OpsW.guard_yes rfl rfl ?_
        refine OpsW.det (det_move rfl) rfl ?_
        refine OpsW.guard_yes rfl rfl ?_
        refine OpsW.det (det_not rfl) rfl ?_
        refine OpsW.guard_yes rfl rfl ?_
        refine OpsW.det (det_move rfl) rfl ?_
        refine OpsW.guard_no rfl rfl rfl ?_
        refine OpsW.guard_no rfl rfl rfl ?_
        refine OpsW.guard_no rfl rfl rfl ?_
        refine OpsW.guard_yes rfl rfl ?_
        refine OpsW.det (det_pick rfl rfl) rfl ?_
        refine OpsW.guard_yes rfl rfl ?_
        refine OpsW.det (det_pick rfl rfl) rfl ?_
        refine OpsW.det (det_pick rfl rfl) rfl ?_
        refine sNext ?_
        refine W.keep (F' := [(59, _), (10, _), (9, _)]) ⟨rfl, rfl, rfl, trivial⟩ ?_
        refine W.cond_true rfl ?_
        refine sSeq ?_
        refine W.region ?_
        refine OpsW.det (det_assign rfl) rfl ?_
        refine OpsW.det (det_assign rfl) rfl ?_
        refine OpsW.det (det_assign rfl) rfl ?_
        refine OpsW.det (det_assign rfl) rfl ?_
        refine sNext ?_
        refine W.keep (F' := [(7, _), (6, _), (5, _), (4, _)]) ⟨rfl, rfl, rfl, rfl, trivial⟩ ?_
        refine sRet ?_
        refine cutRet ?_
        exact (head_abs (mark_bad hlen (by unfold badM; rw [hs, hl, hf, hsh]; rfl)) hE (by decide)).elim
      · skip
        refine W.region ?_
        refine OpsW.det (det_move rfl) rfl ?_
        refine OpsW.det (det_and rfl rfl) rfl ?_
        refine OpsW.det (Det.to ((det_neq (b := 0) rfl rfl)) (congrArg Value.bool ((bits_at (b0_lt hB.small hpos)).2.1.trans hs))) rfl ?_
        refine OpsW.det (det_move rfl) rfl ?_
        refine OpsW.det (Det.to (det_neqb u4 rfl rfl) (congrArg Value.bool (rfl))) rfl ?_
        refine OpsW.det (det_move rfl) rfl ?_
        refine OpsW.guard_no rfl rfl rfl ?_
        refine OpsW.guard_no rfl rfl rfl ?_
        refine OpsW.guard_no rfl rfl rfl ?_
        refine OpsW.guard_no rfl rfl rfl ?_
        refine OpsW.guard_un rfl rfl rfl ?_
        refine OpsW.guard_un rfl rfl rfl ?_
        refine OpsW.guard_un rfl rfl rfl ?_
        refine OpsW.guard_un rfl rfl rfl ?_
        refine OpsW.guard_un rfl rfl rfl ?_
        refine OpsW.guard_un rfl rfl rfl ?_
        refine OpsW.guard_un rfl rfl rfl ?_
        refine OpsW.guard_no rfl rfl rfl ?_
        refine OpsW.det (det_pick rfl rfl) rfl ?_
        refine sNext ?_
        refine W.keep (F' := [(59, _), (10, _), (9, _)]) ⟨rfl, rfl, rfl, trivial⟩ ?_
        refine W.cond_true rfl ?_
        refine sSeq ?_
        refine W.region ?_
        refine OpsW.det (det_assign rfl) rfl ?_
        refine OpsW.det (det_assign rfl) rfl ?_
        refine OpsW.det (det_assign rfl) rfl ?_
        refine OpsW.det (det_assign rfl) rfl ?_
        refine sNext ?_
        refine W.keep (F' := [(7, _), (6, _), (5, _), (4, _)]) ⟨rfl, rfl, rfl, rfl, trivial⟩ ?_
        refine sRet ?_
        refine cutRet ?_
        exact (head_abs (mark_bad hlen (by unfold badM; rw [hs, hl, hf, hsh]; rfl)) hE (by decide)).elim
      · skip
        refine W.region ?_
        refine OpsW.det (det_move rfl) rfl ?_
        refine OpsW.det (det_and rfl rfl) rfl ?_
        refine OpsW.det (Det.to ((det_neq (b := 0) rfl rfl)) (congrArg Value.bool ((bits_at (b0_lt hB.small hpos)).2.1.trans hs))) rfl ?_
        refine OpsW.det (det_move rfl) rfl ?_
        refine OpsW.det (Det.to (det_neqb u4 rfl rfl) (congrArg Value.bool (rfl))) rfl ?_
        refine OpsW.det (det_move rfl) rfl ?_
        refine OpsW.guard_yes rfl rfl ?_
        refine OpsW.det (det_move rfl) rfl ?_
        refine OpsW.guard_yes rfl rfl ?_
        refine OpsW.det (det_and rfl rfl) rfl ?_
        refine OpsW.guard_yes rfl rfl ?_
        refine OpsW.det (Det.to ((det_neq (b := 0) rfl rfl)) (congrArg Value.bool ((bits_at (b0_lt hB.small hpos)).2.2.2.1.trans hl))) rfl ?_
        refine OpsW.guard_yes rfl rfl ?_
        refine OpsW.det (det_move rfl) rfl ?_
        refine OpsW.guard_yes rfl rfl ?_
        refine OpsW.det (det_move rfl) rfl ?_
        refine OpsW.guard_yes rfl rfl ?_
        refine OpsW.det (det_not rfl) rfl ?_
        refine OpsW.guard_yes rfl rfl ?_
        refine OpsW.det (det_move rfl) rfl ?_
        refine OpsW.guard_no rfl rfl rfl ?_
        refine OpsW.guard_no rfl rfl rfl ?_
        refine OpsW.guard_no rfl rfl rfl ?_
        refine OpsW.guard_yes rfl rfl ?_
        refine OpsW.det (det_pick rfl rfl) rfl ?_
        refine OpsW.guard_yes rfl rfl ?_
        refine OpsW.det (det_pick rfl rfl) rfl ?_
        refine OpsW.det (det_pick rfl rfl) rfl ?_
        refine sNext ?_
        refine W.keep (F' := [(59, _), (10, _), (9, _)]) ⟨rfl, rfl, rfl, trivial⟩ ?_
        refine W.cond_true rfl ?_
        refine sSeq ?_
        refine W.region ?_
        refine OpsW.det (det_assign rfl) rfl ?_
        refine OpsW.det (det_assign rfl) rfl ?_
        refine OpsW.det (det_assign rfl) rfl ?_
        refine OpsW.det (det_assign rfl) rfl ?_
        refine sNext ?_
        refine W.keep (F' := [(7, _), (6, _), (5, _), (4, _)]) ⟨rfl, rfl, rfl, rfl, trivial⟩ ?_
        refine sRet ?_
        refine cutRet ?_
        exact (head_abs (mark_bad hlen (by unfold badM; rw [hs, hl, hf, hsh]; rfl)) hE (by decide)).elim
      · skip
        refine W.region ?_
        refine OpsW.det (det_move rfl) rfl ?_
        refine OpsW.det (det_and rfl rfl) rfl ?_
        refine OpsW.det (Det.to ((det_neq (b := 0) rfl rfl)) (congrArg Value.bool ((bits_at (b0_lt hB.small hpos)).2.1.trans hs))) rfl ?_
        refine OpsW.det (det_move rfl) rfl ?_
        refine OpsW.det (Det.to (det_neqb u4 rfl rfl) (congrArg Value.bool (rfl))) rfl ?_
        refine OpsW.det (det_move rfl) rfl ?_
        refine OpsW.guard_no rfl rfl rfl ?_
        refine OpsW.guard_no rfl rfl rfl ?_
        refine OpsW.guard_no rfl rfl rfl ?_
        refine OpsW.guard_no rfl rfl rfl ?_
        refine OpsW.guard_un rfl rfl rfl ?_
        refine OpsW.guard_un rfl rfl rfl ?_
        refine OpsW.guard_un rfl rfl rfl ?_
        refine OpsW.guard_un rfl rfl rfl ?_
        refine OpsW.guard_un rfl rfl rfl ?_
        refine OpsW.guard_un rfl rfl rfl ?_
        refine OpsW.guard_un rfl rfl rfl ?_
        refine OpsW.guard_no rfl rfl rfl ?_
        refine OpsW.det (det_pick rfl rfl) rfl ?_
        refine sNext ?_
        refine W.keep (F' := [(59, _), (10, _), (9, _)]) ⟨rfl, rfl, rfl, trivial⟩ ?_
        refine W.cond_true rfl ?_
        refine sSeq ?_
        refine W.region ?_
        refine OpsW.det (det_assign rfl) rfl ?_
        refine OpsW.det (det_assign rfl) rfl ?_
        refine OpsW.det (det_assign rfl) rfl ?_
        refine OpsW.det (det_assign rfl) rfl ?_
        refine sNext ?_
        refine W.keep (F' := [(7, _), (6, _), (5, _), (4, _)]) ⟨rfl, rfl, rfl, rfl, trivial⟩ ?_
        refine sRet ?_
        refine cutRet ?_
        exact (head_abs (mark_bad hlen (by unfold badM; rw [hs, hl, hf, hsh]; rfl)) hE (by decide)).elim
      · skip
        refine W.region ?_
        refine OpsW.det (det_move rfl) rfl ?_
        refine OpsW.det (det_and rfl rfl) rfl ?_
        refine OpsW.det (Det.to ((det_neq (b := 0) rfl rfl)) (congrArg Value.bool ((bits_at (b0_lt hB.small hpos)).2.1.trans hs))) rfl ?_
        refine OpsW.det (det_move rfl) rfl ?_
        refine OpsW.det (Det.to (det_neqb u4 rfl rfl) (congrArg Value.bool (rfl))) rfl ?_
        refine OpsW.det (det_move rfl) rfl ?_
        refine OpsW.guard_no rfl rfl rfl ?_
        refine OpsW.guard_no rfl rfl rfl ?_
        refine OpsW.guard_no rfl rfl rfl ?_
        refine OpsW.guard_no rfl rfl rfl ?_
        refine OpsW.guard_un rfl rfl rfl ?_
        refine OpsW.guard_un rfl rfl rfl ?_
        refine OpsW.guard_un rfl rfl rfl ?_
        refine OpsW.guard_un rfl rfl rfl ?_
        refine OpsW.guard_un rfl rfl rfl ?_
        refine OpsW.guard_un rfl rfl rfl ?_
        refine OpsW.guard_un rfl rfl rfl ?_
        refine OpsW.guard_no rfl rfl rfl ?_
        refine OpsW.det (det_pick rfl rfl) rfl ?_
        refine sNext ?_
        refine W.keep (F' := [(59, _), (10, _), (9, _)]) ⟨rfl, rfl, rfl, trivial⟩ ?_
        refine W.cond_true rfl ?_
        refine sSeq ?_
        refine W.region ?_
        refine OpsW.det (det_assign rfl) rfl ?_
        refine OpsW.det (det_assign rfl) rfl ?_
        refine OpsW.det (det_assign rfl) rfl ?_
        refine OpsW.det (det_assign rfl) rfl ?_
        refine sNext ?_
        refine W.keep (F' := [(7, _), (6, _), (5, _), (4, _)]) ⟨rfl, rfl, rfl, rfl, trivial⟩ ?_
        refine sRet ?_
        refine cutRet ?_
        exact (head_abs (mark_bad hlen (by unfold badM; rw [hs, hl, hf, hsh]; rfl)) hE (by decide)).elim
      · skip
        refine W.region ?_
        refine OpsW.det (det_move rfl) rfl ?_
        refine OpsW.det (det_and rfl rfl) rfl ?_
        refine OpsW.det (Det.to ((det_neq (b := 0) rfl rfl)) (congrArg Value.bool ((bits_at (b0_lt hB.small hpos)).2.1.trans hs))) rfl ?_
        refine OpsW.det (det_move rfl) rfl ?_
        refine OpsW.det (Det.to (det_neqb u4 rfl rfl) (congrArg Value.bool (rfl))) rfl ?_
        refine OpsW.det (det_move rfl) rfl ?_
        refine OpsW.guard_yes rfl rfl ?_
        refine OpsW.det (det_move rfl) rfl ?_
        refine OpsW.guard_yes rfl rfl ?_
        refine OpsW.det (det_and rfl rfl) rfl ?_
        refine OpsW.guard_yes rfl rfl ?_
        refine OpsW.det (Det.to ((det_neq (b := 0) rfl rfl)) (congrArg Value.bool ((bits_at (b0_lt hB.small hpos)).2.2.2.1.trans hl))) rfl ?_
        refine OpsW.guard_yes rfl rfl ?_
        refine OpsW.det (det_move rfl) rfl ?_
        refine OpsW.guard_no rfl rfl rfl ?_
        refine OpsW.guard_no rfl rfl rfl ?_
        refine OpsW.guard_no rfl rfl rfl ?_
        refine OpsW.guard_un rfl rfl rfl ?_
        refine OpsW.guard_un rfl rfl rfl ?_
        refine OpsW.guard_un rfl rfl rfl ?_
        refine OpsW.guard_no rfl rfl rfl ?_
        refine OpsW.guard_yes rfl rfl ?_
        refine OpsW.det (det_pick rfl rfl) rfl ?_
        refine OpsW.det (det_pick rfl rfl) rfl ?_
        refine sNext ?_
        refine W.keep (F' := [(59, _), (10, _), (9, _)]) ⟨rfl, rfl, rfl, trivial⟩ ?_
        refine W.cond_false rfl ?_
        refine sSkip0 ?_
        exact cutOk () (by unfold badM; rw [hs, hl, hf, hsh]; rfl) ⟨rfl, rfl, trivial⟩ (List.Sublist.refl _)
      · skip
        refine W.region ?_
        refine OpsW.det (det_move rfl) rfl ?_
        refine OpsW.det (det_and rfl rfl) rfl ?_
        refine OpsW.det (Det.to ((det_neq (b := 0) rfl rfl)) (congrArg Value.bool ((bits_at (b0_lt hB.small hpos)).2.1.trans hs))) rfl ?_
        refine OpsW.det (det_move rfl) rfl ?_
        refine OpsW.det (Det.to (det_neqb u4 rfl rfl) (congrArg Value.bool (rfl))) rfl ?_
        refine OpsW.det (det_move rfl) rfl ?_
        refine OpsW.guard_no rfl rfl rfl ?_
        refine OpsW.guard_no rfl rfl rfl ?_
        refine OpsW.guard_no rfl rfl rfl ?_
        refine OpsW.guard_no rfl rfl rfl ?_
        refine OpsW.guard_un rfl rfl rfl ?_
        refine OpsW.guard_un rfl rfl rfl ?_
        refine OpsW.guard_un rfl rfl rfl ?_
        refine OpsW.guard_un rfl rfl rfl ?_
        refine OpsW.guard_un rfl rfl rfl ?_
        refine OpsW.guard_un rfl rfl rfl ?_
        refine OpsW.guard_un rfl rfl rfl ?_
        refine OpsW.guard_no rfl rfl rfl ?_
        refine OpsW.det (det_pick rfl rfl) rfl ?_
        refine sNext ?_
        refine W.keep (F' := [(59, _), (10, _), (9, _)]) ⟨rfl, rfl, rfl, trivial⟩ ?_
        refine W.cond_true rfl ?_
        refine sSeq ?_
        refine W.region ?_
        refine OpsW.det (det_assign rfl) rfl ?_
        refine OpsW.det (det_assign rfl) rfl ?_
        refine OpsW.det (det_assign rfl) rfl ?_
        refine OpsW.det (det_assign rfl) rfl ?_
        refine sNext ?_
        refine W.keep (F' := [(7, _), (6, _), (5, _), (4, _)]) ⟨rfl, rfl, rfl, rfl, trivial⟩ ?_
        refine sRet ?_
        refine cutRet ?_
        exact (head_abs (mark_bad hlen (by unfold badM; rw [hs, hl, hf, hsh]; rfl)) hE (by decide)).elim
      · skip
        refine W.region ?_
        refine OpsW.det (det_move rfl) rfl ?_
        refine OpsW.det (det_and rfl rfl) rfl ?_
        refine OpsW.det (Det.to ((det_neq (b := 0) rfl rfl)) (congrArg Value.bool ((bits_at (b0_lt hB.small hpos)).2.1.trans hs))) rfl ?_
        refine OpsW.det (det_move rfl) rfl ?_
        refine OpsW.det (Det.to (det_neqb u4 rfl rfl) (congrArg Value.bool (rfl))) rfl ?_
        refine OpsW.det (det_move rfl) rfl ?_
        refine OpsW.guard_yes rfl rfl ?_
        refine OpsW.det (det_move rfl) rfl ?_
        refine OpsW.guard_yes rfl rfl ?_
        refine OpsW.det (det_and rfl rfl) rfl ?_
        refine OpsW.guard_yes rfl rfl ?_
        refine OpsW.det (Det.to ((det_neq (b := 0) rfl rfl)) (congrArg Value.bool ((bits_at (b0_lt hB.small hpos)).2.2.2.1.trans hl))) rfl ?_
        refine OpsW.guard_yes rfl rfl ?_
        refine OpsW.det (det_move rfl) rfl ?_
        refine OpsW.guard_no rfl rfl rfl ?_
        refine OpsW.guard_no rfl rfl rfl ?_
        refine OpsW.guard_no rfl rfl rfl ?_
        refine OpsW.guard_un rfl rfl rfl ?_
        refine OpsW.guard_un rfl rfl rfl ?_
        refine OpsW.guard_un rfl rfl rfl ?_
        refine OpsW.guard_no rfl rfl rfl ?_
        refine OpsW.guard_yes rfl rfl ?_
        refine OpsW.det (det_pick rfl rfl) rfl ?_
        refine OpsW.det (det_pick rfl rfl) rfl ?_
        refine sNext ?_
        refine W.keep (F' := [(59, _), (10, _), (9, _)]) ⟨rfl, rfl, rfl, trivial⟩ ?_
        refine W.cond_false rfl ?_
        refine sSkip0 ?_
        exact cutOk () (by unfold badM; rw [hs, hl, hf, hsh]; rfl) ⟨rfl, rfl, trivial⟩ (List.Sublist.refl _)
      · skip
        refine W.region ?_
        refine OpsW.det (det_move rfl) rfl ?_
        refine OpsW.det (det_and rfl rfl) rfl ?_
        refine OpsW.det (Det.to ((det_neq (b := 0) rfl rfl)) (congrArg Value.bool ((bits_at (b0_lt hB.small hpos)).2.1.trans hs))) rfl ?_
        refine OpsW.det (det_move rfl) rfl ?_
        refine OpsW.det (Det.to (det_neqb u4 rfl rfl) (congrArg Value.bool (rfl))) rfl ?_
        refine OpsW.det (det_move rfl) rfl ?_
        refine OpsW.guard_no rfl rfl rfl ?_
        refine OpsW.guard_no rfl rfl rfl ?_
        refine OpsW.guard_no rfl rfl rfl ?_
        refine OpsW.guard_no rfl rfl rfl ?_
        refine OpsW.guard_un rfl rfl rfl ?_
        refine OpsW.guard_un rfl rfl rfl ?_
        refine OpsW.guard_un rfl rfl rfl ?_
        refine OpsW.guard_un rfl rfl rfl ?_
        refine OpsW.guard_un rfl rfl rfl ?_
        refine OpsW.guard_un rfl rfl rfl ?_
        refine OpsW.guard_un rfl rfl rfl ?_
        refine OpsW.guard_no rfl rfl rfl ?_
        refine OpsW.det (det_pick rfl rfl) rfl ?_
        refine sNext ?_
        refine W.keep (F' := [(59, _), (10, _), (9, _)]) ⟨rfl, rfl, rfl, trivial⟩ ?_
        refine W.cond_true rfl ?_
        refine sSeq ?_
        refine W.region ?_
        refine OpsW.det (det_assign rfl) rfl ?_
        refine OpsW.det (det_assign rfl) rfl ?_
        refine OpsW.det (det_assign rfl) rfl ?_
        refine OpsW.det (det_assign rfl) rfl ?_
        refine sNext ?_
        refine W.keep (F' := [(7, _), (6, _), (5, _), (4, _)]) ⟨rfl, rfl, rfl, rfl, trivial⟩ ?_
        refine sRet ?_
        refine cutRet ?_
        exact (head_abs (mark_bad hlen (by unfold badM; rw [hs, hl, hf, hsh]; rfl)) hE (by decide)).elim
      · skip
        refine W.region ?_
        refine OpsW.det (det_move rfl) rfl ?_
        refine OpsW.det (det_and rfl rfl) rfl ?_
        refine OpsW.det (Det.to ((det_neq (b := 0) rfl rfl)) (congrArg Value.bool ((bits_at (b0_lt hB.small hpos)).2.1.trans hs))) rfl ?_
        refine OpsW.det (det_move rfl) rfl ?_
        refine OpsW.det (Det.to (det_neqb u4 rfl rfl) (congrArg Value.bool (rfl))) rfl ?_
        refine OpsW.det (det_move rfl) rfl ?_
        refine OpsW.guard_yes rfl rfl ?_
        refine OpsW.det (det_move rfl) rfl ?_
        refine OpsW.guard_yes rfl rfl ?_
        refine OpsW.det (det_and rfl rfl) rfl ?_
        refine OpsW.guard_yes rfl rfl ?_
        refine OpsW.det (Det.to ((det_neq (b := 0) rfl rfl)) (congrArg Value.bool ((bits_at (b0_lt hB.small hpos)).2.2.2.1.trans hl))) rfl ?_
        refine OpsW.guard_yes rfl rfl ?_
        refine OpsW.det (det_move rfl) rfl ?_
        refine OpsW.guard_yes rfl rfl ?_
        refine OpsW.det (det_move rfl) rfl ?_
        refine OpsW.guard_yes rfl rfl ?_
        refine OpsW.det (det_not rfl) rfl ?_
        refine OpsW.guard_yes rfl rfl ?_
        refine OpsW.det (det_move rfl) rfl ?_
        refine OpsW.guard_yes rfl rfl ?_
        refine OpsW.det (det_move rfl) rfl ?_
        refine OpsW.guard_yes rfl rfl ?_
        refine OpsW.det (det_and rfl rfl) rfl ?_
        refine OpsW.guard_yes rfl rfl ?_
        refine OpsW.det (Det.to ((det_neq (b := 0) rfl rfl)) (congrArg Value.bool ((bits_at (b0_lt hB.small hpos)).2.2.1.trans hf))) rfl ?_
        refine OpsW.guard_yes rfl rfl ?_
        refine OpsW.det (det_pick rfl rfl) rfl ?_
        refine OpsW.guard_yes rfl rfl ?_
        refine OpsW.det (det_pick rfl rfl) rfl ?_
        refine OpsW.det (det_pick rfl rfl) rfl ?_
        refine sNext ?_
        refine W.keep (F' := [(59, _), (10, _), (9, _)]) ⟨rfl, rfl, rfl, trivial⟩ ?_
        refine W.cond_false rfl ?_
        refine sSkip0 ?_
        exact cutOk () (by unfold badM; rw [hs, hl, hf, hsh]; rfl) ⟨rfl, rfl, trivial⟩ (List.Sublist.refl _)
      · skip
        refine W.region ?_
        refine OpsW.det (det_move rfl) rfl ?_
        refine OpsW.det (det_and rfl rfl) rfl ?_
        refine OpsW.det (Det.to ((det_neq (b := 0) rfl rfl)) (congrArg Value.bool ((bits_at (b0_lt hB.small hpos)).2.1.trans hs))) rfl ?_
        refine OpsW.det (det_move rfl) rfl ?_
        refine OpsW.det (Det.to (det_neqb u4 rfl rfl) (congrArg Value.bool (rfl))) rfl ?_
        refine OpsW.det (det_move rfl) rfl ?_
        refine OpsW.guard_no rfl rfl rfl ?_
        refine OpsW.guard_no rfl rfl rfl ?_
        refine OpsW.guard_no rfl rfl rfl ?_
        refine OpsW.guard_no rfl rfl rfl ?_
        refine OpsW.guard_un rfl rfl rfl ?_
        refine OpsW.guard_un rfl rfl rfl ?_
        refine OpsW.guard_un rfl rfl rfl ?_
        refine OpsW.guard_un rfl rfl rfl ?_
        refine OpsW.guard_un rfl rfl rfl ?_
        refine OpsW.guard_un rfl rfl rfl ?_
        refine OpsW.guard_un rfl rfl rfl ?_
        refine OpsW.guard_no rfl rfl rfl ?_
        refine OpsW.det (det_pick rfl rfl) rfl ?_
        refine sNext ?_
        refine W.keep (F' := [(59, _), (10, _), (9, _)]) ⟨rfl, rfl, rfl, trivial⟩ ?_
        refine W.cond_true rfl ?_
        refine sSeq ?_
        refine W.region ?_
        refine OpsW.det (det_assign rfl) rfl ?_
        refine OpsW.det (det_assign rfl) rfl ?_
        refine OpsW.det (det_assign rfl) rfl ?_
        refine OpsW.det (det_assign rfl) rfl ?_
        refine sNext ?_
        refine W.keep (F' := [(7, _), (6, _), (5, _), (4, _)]) ⟨rfl, rfl, rfl, rfl, trivial⟩ ?_
        refine sRet ?_
        refine cutRet ?_
        exact (head_abs (mark_bad hlen (by unfold badM; rw [hs, hl, hf, hsh]; rfl)) hE (by decide)).elim
      · skip
        refine W.region ?_
        refine OpsW.det (det_move rfl) rfl ?_
        refine OpsW.det (det_and rfl rfl) rfl ?_
        refine OpsW.det (Det.to ((det_neq (b := 0) rfl rfl)) (congrArg Value.bool ((bits_at (b0_lt hB.small hpos)).2.1.trans hs))) rfl ?_
        refine OpsW.det (det_move rfl) rfl ?_
        refine OpsW.det (Det.to (det_neqb u4 rfl rfl) (congrArg Value.bool (rfl))) rfl ?_
        refine OpsW.det (det_move rfl) rfl ?_
        refine OpsW.guard_yes rfl rfl ?_
        refine OpsW.det (det_move rfl) rfl ?_
        refine OpsW.guard_yes rfl rfl ?_
        refine OpsW.det (det_and rfl rfl) rfl ?_
        refine OpsW.guard_yes rfl rfl ?_
        refine OpsW.det (Det.to ((det_neq (b := 0) rfl rfl)) (congrArg Value.bool ((bits_at (b0_lt hB.small hpos)).2.2.2.1.trans hl))) rfl ?_
        refine OpsW.guard_yes rfl rfl ?_
        refine OpsW.det (det_move rfl) rfl ?_
        refine OpsW.guard_yes rfl rfl ?_
        refine OpsW.det (det_move rfl) rfl ?_
        refine OpsW.guard_yes rfl rfl ?_
        refine OpsW.det (det_not rfl) rfl ?_
        refine OpsW.guard_yes rfl rfl ?_
        refine OpsW.det (det_move rfl) rfl ?_
        refine OpsW.guard_yes rfl rfl ?_
        refine OpsW.det (det_move rfl) rfl ?_
        refine OpsW.guard_yes rfl rfl ?_
        refine OpsW.det (det_and rfl rfl) rfl ?_
        refine OpsW.guard_yes rfl rfl ?_
        refine OpsW.det (Det.to ((det_neq (b := 0) rfl rfl)) (congrArg Value.bool ((bits_at (b0_lt hB.small hpos)).2.2.1.trans hf))) rfl ?_
        refine OpsW.guard_yes rfl rfl ?_
        refine OpsW.det (det_pick rfl rfl) rfl ?_
        refine OpsW.guard_yes rfl rfl ?_
        refine OpsW.det (det_pick rfl rfl) rfl ?_
        refine OpsW.det (det_pick rfl rfl) rfl ?_
        refine sNext ?_
        refine W.keep (F' := [(59, _), (10, _), (9, _)]) ⟨rfl, rfl, rfl, trivial⟩ ?_
        refine W.cond_true rfl ?_
        refine sSeq ?_
        refine W.region ?_
        refine OpsW.det (det_assign rfl) rfl ?_
        refine OpsW.det (det_assign rfl) rfl ?_
        refine OpsW.det (det_assign rfl) rfl ?_
        refine OpsW.det (det_assign rfl) rfl ?_
        refine sNext ?_
        refine W.keep (F' := [(7, _), (6, _), (5, _), (4, _)]) ⟨rfl, rfl, rfl, rfl, trivial⟩ ?_
        refine sRet ?_
        refine cutRet ?_
        exact (head_abs (mark_bad hlen (by unfold badM; rw [hs, hl, hf, hsh]; rfl)) hE (by decide)).elim
    · skip
      rintro - hbad
      refine sSeq ?_
      refine sSeq ?_
      refine W.region ?_
      refine OpsW.det (det_move rfl) rfl ?_
      refine OpsW.det (det_and rfl rfl) rfl ?_
      refine OpsW.det ((det_neq (b := 0) rfl rfl).to (v := .bool (fB (b0 l))) (congrArg Value.bool (bits_at (b0_lt hB.small hpos)).2.2.1)) rfl ?_
      refine sNext ?_
      refine W.keep (F' := [(62, _), (10, _), (9, _)]) ⟨rfl, rfl, rfl, trivial⟩ ?_
      refine W.cond rfl (fun hc62 => ?_) (fun hc62 => ?_)
      · skip
        refine sSeq ?_
        refine W.region ?_
        refine OpsW.det (det_move rfl) rfl ?_
        refine OpsW.det (det_len u22 rfl) rfl ?_
        refine OpsW.det (det_move rfl) rfl ?_
        refine sNext ?_
        refine W.keep (F' := [(65, _), (64, _), (63, _), (10, _), (9, _)]) ⟨rfl, rfl, rfl, rfl, rfl, trivial⟩ ?_
        refine sBlock ?_
        refine sLoop (σ := Nat) (fun i => [(65, .int .i64 (i : Nat)), (64, .int .i64 ((0 + l.length : Nat) : Int)), (63, .slice (some ⟨bn, 0, none⟩) (0 + l.length) capn), (10, .slice (some ⟨bn, 0, none⟩) (0 + l.length) capn), (9, .int .u8 ((b0 l / 32 * 32 : Nat) : Int))]) (fun i => [(bn, blk (bcells (cl l) ++ spn) 5)]) (fun i => i ≤ l.length ∧ ∀ j (hj : j < (cl l).length), j < i → (cl l)[j] = 0) (fun i => l.length - i) 0 ⟨Nat.zero_le _, fun j hj h => absurd h (Nat.not_lt_zero _)⟩ ⟨rfl, rfl, rfl, rfl, rfl, trivial⟩ (List.Sublist.refl _) ?_
        rintro i ⟨hi, hI0⟩
        refine sSeq ?_
        refine W.region ?_
        refine OpsW.det (det_lss rfl rfl) rfl ?_
        refine sNext ?_
        refine sSeq ?_
        refine W.cond rfl (fun hc66 => ?_) (fun hc66 => ?_)
        · skip
          have hlt : i < (cl l).length := by have h := hc66; simp only [decide_eq_true_eq] at h; rw [cl_len hpos]; omega
          have hlt2 : i < l.length := by rw [cl_len hpos] at hlt; exact hlt
          refine sSkip ?_
          refine sSeq ?_
          refine sBlock ?_
          refine sSeq ?_
          refine W.region ?_
          refine OpsW.det (det_indexAddr_sl u22 sz5 rfl rfl ⟨by omega, by omega⟩) rfl ?_
          refine OpsW.det (det_loadC ty5 rfl (List.Mem.head _) (bc_at hlt)) rfl ?_
          refine OpsW.det (det_assign rfl) rfl ?_
          refine sNext ?_
          refine W.keep (F' := [(12, _), (65, _), (64, _), (63, _), (10, _), (9, _)]) ⟨rfl, rfl, rfl, rfl, rfl, rfl, trivial⟩ ?_
          refine sSeq ?_
          refine W.region ?_
          refine OpsW.det (det_move rfl) rfl ?_
          refine OpsW.det ((det_neq (a := (((cl l)[i] : Nat) : Int)) (b := 0) rfl rfl)) rfl ?_
          refine sNext ?_
          refine W.keep (F' := [(70, _), (65, _), (64, _), (63, _), (10, _), (9, _)]) ⟨rfl, rfl, rfl, rfl, rfl, rfl, trivial⟩ ?_
          refine W.cond rfl (fun hc70 => ?_) (fun hc70 => ?_)
          · skip
            refine sSeq ?_
            refine W.region ?_
            refine OpsW.det (det_assign rfl) rfl ?_
            refine OpsW.det (det_assign rfl) rfl ?_
            refine OpsW.det (det_assign rfl) rfl ?_
            refine OpsW.det (det_assign rfl) rfl ?_
            refine sNext ?_
            refine W.keep (F' := [(7, _), (6, _), (5, _), (4, _)]) ⟨rfl, rfl, rfl, rfl, trivial⟩ ?_
            refine sRet ?_
            refine retBlk ?_
            refine retLoop ?_
            refine retBlk ?_
            exact (head_abs (mark_dirty hlen hbad hc62 (cl_dirty hpos (b0_lt hB.small hpos) hlt (by have h := hc70; simp at h; omega))) hE (by decide)).elim
          · skip
            refine sSkip0 ?_
            refine bNext ?_
            refine W.keep (F' := [(65, _), (64, _), (63, _), (10, _), (9, _)]) ⟨rfl, rfl, rfl, rfl, rfl, trivial⟩ ?_
            refine W.region ?_
            refine OpsW.det (det_addN (b := 1) rfl rfl (by omega)) rfl ?_
            refine OpsW.det (det_move rfl) rfl ?_
            refine sLast ?_
            exact rEnd (i + 1) ⟨by rw [cl_len hpos] at hlt; exact hlt, fun j hj h2 => by
            by_cases e : j = i
            · subst e; have h := hc70; simp at h; omega
            · exact hI0 j hj (by omega)⟩ ⟨rfl, rfl, rfl, rfl, rfl, trivial⟩ (List.Sublist.refl _) (by rw [cl_len hpos] at hlt; exact step_lt hlt)
        · skip
          have hi4 : i = l.length := by have h := hc66; simp only [decide_eq_false_iff_not] at h; omega
          subst hi4
          have hI : ∀ j (hj : j < (cl l).length), (cl l)[j] = 0 := fun j hj => hI0 j hj (by rw [cl_len hpos] at hj; exact hj)
          refine sExit ?_
          refine xLoop ?_
          refine xHere ?_
          refine W.keep (F' := [(10, _), (9, _)]) ⟨rfl, rfl, trivial⟩ ?_
          refine sSeq ?_
          refine W.region ?_
          refine OpsW.det (det_move rfl) rfl ?_
          refine OpsW.det (det_move rfl) rfl ?_
          refine OpsW.det (det_and rfl rfl) rfl ?_
          refine OpsW.det ((det_neq (b := 0) rfl rfl).to (v := .bool (fB (b0 l))) (congrArg Value.bool (bits_at (b0_lt hB.small hpos)).2.2.1)) rfl ?_
          refine OpsW.det (det_move rfl) rfl ?_
          refine OpsW.det (det_and rfl rfl) rfl ?_
          refine OpsW.det ((det_neq (b := 0) rfl rfl).to (v := .bool (lB (b0 l))) (congrArg Value.bool (bits_at (b0_lt hB.small hpos)).2.2.2.1)) rfl ?_
          refine OpsW.det (det_assign rfl) rfl ?_
          refine OpsW.det (det_assign rfl) rfl ?_
          refine OpsW.det (det_assign rfl) rfl ?_
          refine OpsW.det (det_assign rfl) rfl ?_
          refine sNext ?_
          refine W.keep (F' := [(7, _), (6, _), (5, _), (4, _)]) ⟨rfl, rfl, rfl, rfl, trivial⟩ ?_
          refine sRet ?_
          exact done4 Tryd.results53 (rv_tmp rfl) (rv_tmp rfl) (rv_tmp rfl) (rv_tmp rfl) ⟨(bn, capn, spn), ⟨by show (bcells (cl l) ++ spn).length = capn * 1; rw [List.length_append, bcells_length, cl_len hpos]; have h := h2n; rw [List.length_append] at h; simp only [List.nil_append, bcells_length] at h; omega, by show l.length ≤ capn; rw [List.length_append, List.nil_append, bcells_length] at h2n; omega⟩, by rw [Nat.zero_add], List.Sublist.refl _⟩
      · skip
        refine sSkip ?_
        refine sSeq ?_
        refine W.region ?_
        refine OpsW.det (det_move rfl) rfl ?_
        refine OpsW.det (det_move rfl) rfl ?_
        refine OpsW.det (det_and rfl rfl) rfl ?_
        refine OpsW.det ((det_neq (b := 0) rfl rfl).to (v := .bool (fB (b0 l))) (congrArg Value.bool (bits_at (b0_lt hB.small hpos)).2.2.1)) rfl ?_
        refine OpsW.det (det_move rfl) rfl ?_
        refine OpsW.det (det_and rfl rfl) rfl ?_
        refine OpsW.det ((det_neq (b := 0) rfl rfl).to (v := .bool (lB (b0 l))) (congrArg Value.bool (bits_at (b0_lt hB.small hpos)).2.2.2.1)) rfl ?_
        refine OpsW.det (det_assign rfl) rfl ?_
        refine OpsW.det (det_assign rfl) rfl ?_
        refine OpsW.det (det_assign rfl) rfl ?_
        refine OpsW.det (det_assign rfl) rfl ?_
        refine sNext ?_
        refine W.keep (F' := [(7, _), (6, _), (5, _), (4, _)]) ⟨rfl, rfl, rfl, rfl, trivial⟩ ?_
        refine sRet ?_
        exact done4 Tryd.results53 (rv_tmp rfl) (rv_tmp rfl) (rv_tmp rfl) (rv_tmp rfl) ⟨(bn, capn, spn), ⟨by show (bcells (cl l) ++ spn).length = capn * 1; rw [List.length_append, bcells_length, cl_len hpos]; have h := h2n; rw [List.length_append] at h; simp only [List.nil_append, bcells_length] at h; omega, by show l.length ≤ capn; rw [List.length_append, List.nil_append, bcells_length] at h2n; omega⟩, by rw [Nat.zero_add], List.Sublist.refl _⟩

end Go.Cu

/- The point of the first group that bytes are: the walk. Conditions: none but a length. -/
namespace Go.Cu
open Go Go.Vm Go.RowKit Go.Proofs 
attribute [local irreducible] W OpsW Det Fresh New Writes Vm.Pure Makes Changes ExternTo BuildTo ZeroTo FieldTo IndexTo BinTo SliceTo Vm.Enters
set_option linter.unusedVariables false
set_option linter.unusedSimpArgs false
variable {T : Nat → TypeId × Nat × Nat}

theorem Bs_take1 {G' : Hp} {b o cap k : Nat} {l : List Nat} (hB : Bs G' (.slice (some ⟨b, o, none⟩) l.length cap) l) (hk : k ≤ l.length) : Bs G' (.slice (some ⟨b, o, none⟩) k cap) (l.take k) := by
  have hl : (l.take k).length = k := by rw [List.length_take]; omega
  refine ⟨⟨_, _, by rw [hl]⟩, fun c hc => hB.small c (List.mem_of_mem_take hc), fun h => ?_⟩
  obtain ⟨b', o', cap', cs, e, fr, hv, hm, hcap, hcs⟩ := hB.all (by omega)
  simp only [Value.slice.injEq, Option.some.injEq, Addr.mk.injEq] at hv
  obtain ⟨⟨rfl, rfl, _⟩, _, rfl⟩ := hv
  exact ⟨b, o, cap, cs, e, fr, by rw [hl], hm, by omega, fun i hi => by rw [hcs i (by omega), List.getElem_take]⟩
theorem Bs_drop1 {G' : Hp} {b o cap k : Nat} {l : List Nat} (hB : Bs G' (.slice (some ⟨b, o, none⟩) l.length cap) l) (hk : k < l.length) : Bs G' (.slice (some ⟨b, o + k, none⟩) (l.length - k) (cap - k)) (l.drop k) := by
  have hl : (l.drop k).length = l.length - k := List.length_drop
  refine ⟨⟨_, _, by rw [hl]⟩, fun c hc => hB.small c (List.mem_of_mem_drop hc), fun h => ?_⟩
  obtain ⟨b', o', cap', cs, e, fr, hv, hm, hcap, hcs⟩ := hB.all (by omega)
  simp only [Value.slice.injEq, Option.some.injEq, Addr.mk.injEq] at hv
  obtain ⟨⟨rfl, rfl, _⟩, _, rfl⟩ := hv
  exact ⟨b, o + k, cap - k, cs, e, fr, by rw [hl], hm, by omega, fun i hi => by rw [Nat.add_assoc, hcs (k + i) (by omega), List.getElem_drop]⟩
theorem cl_small {l : List Nat} (hs : ∀ c ∈ l, c < 256) : ∀ c ∈ cl l, c < 256 := by
  intro c hc
  unfold cl at hc
  rcases List.mem_cons.1 hc with rfl | h
  · omega
  · exact hs c (List.mem_of_mem_tail h)
theorem mark_lens {l : List Nat} {n : Nat} (h : (markE l n).1 = 0) : l.length = n ∨ l.length = 2 * n := by
  refine Classical.byContradiction fun hne => ?_
  rw [mark_len (by omega) (by omega)] at h
  cases h
theorem cl_Bs {l sp : List Nat} {b cap : Nat} {sps : List Value} (hs : ∀ c ∈ l, c < 256) (h0 : 0 < l.length) (hcap : l.length ≤ cap) : Bs [(b, blk (bcells (cl l) ++ sps) 5)] (.slice (some ⟨b, 0, none⟩) (cl l).length cap) (cl l) :=
  Bs.of (cl_small hs) (by rw [cl_len h0]; exact hcap)
def rx (l : List Nat) : Fq × Int := readF ((cl l).take 48)
def ry (l : List Nat) : Fq × Int := readF ((cl l).drop 48)
def rs (l : List Nat) : Fq × Bool := sqrtF ((rx l).1 * (rx l).1 * (rx l).1 + Zp.of 4)
/-- The last tests of a point. -/
def fin1 (p : Pt) (ok : Bool) : Pt × Int := if ok = false ∨ p = (0, 0) then ((0, 0), 13) else if inB p = false then ((0, 0), 14) else (p, 0)
/-- The point of the first group that bytes are, and the error. -/
def rd1 (l : List Nat) : Pt × Int :=
  if (markE l 48).1 ≠ 0 then ((0, 0), (markE l 48).1) else if fB (b0 l) = true then ((0, 0), 0) else if (rx l).2 ≠ 0 then ((0, 0), (rx l).2)
  else if 48 < l.length then (if (ry l).2 ≠ 0 then ((0, 0), (ry l).2) else fin1 ((rx l).1, (ry l).1) (onB ((rx l).1, (ry l).1)))
  else fin1 ((rx l).1, if largeF (rs l).1 ≠ lB (b0 l) then 0 - (rs l).1 else (rs l).1) (rs l).2
theorem rd1_mark {l : List Nat} (h : (markE l 48).1 ≠ 0) : rd1 l = ((0, 0), (markE l 48).1) := if_pos h
theorem rd1_far {l : List Nat} (h : (markE l 48).1 = 0) (h2 : fB (b0 l) = true) : rd1 l = ((0, 0), 0) := by unfold rd1; rw [if_neg (fun h3 => h3 h), if_pos h2]
theorem rx_eq (l : List Nat) : rx l = readF ((cl l).take 48) := rfl
theorem ry_eq (l : List Nat) : ry l = readF ((cl l).drop 48) := rfl
theorem rs_eq {l : List Nat} {X : Fq × Int} (h : X = rx l) : rs l = sqrtF (X.1 * X.1 * X.1 + Zp.of 4) := by subst h; rfl
theorem read_to {X : Fq × Int} {r : Fq × Int} (h : X = r) : Value.tuple #[encF r.1, .int .i64 r.2] = .tuple #[encF X.1, .int .i64 X.2] := by rw [h]
theorem sqrt_to {X : Fq × Bool} {r : Fq × Bool} (h : X = r) : Value.tuple #[encF r.1, .bool r.2] = .tuple #[encF X.1, .bool X.2] := by rw [h]
theorem rd1_x {l : List Nat} {X : Fq × Int} (hX : X = rx l) (h : (markE l 48).1 = 0) (h2 : fB (b0 l) = false) (h3 : X.2 ≠ 0) : rd1 l = ((0, 0), X.2) := by subst hX; unfold rd1; rw [if_neg (fun h3 => h3 h), if_neg (by rw [h2]; decide), if_pos h3]
theorem rd1_y {l : List Nat} {X Y : Fq × Int} (hX : X = rx l) (hY : Y = ry l) (h : (markE l 48).1 = 0) (h2 : fB (b0 l) = false) (h3 : X.2 = 0) (h4 : 48 < l.length) (h5 : Y.2 ≠ 0) : rd1 l = ((0, 0), Y.2) := by
  subst hX; subst hY; unfold rd1; rw [if_neg (fun h3 => h3 h), if_neg (by rw [h2]; decide), if_neg (fun h => h h3), if_pos h4, if_pos h5]
theorem rd1_long {l : List Nat} {X Y : Fq × Int} (hX : X = rx l) (hY : Y = ry l) (h : (markE l 48).1 = 0) (h2 : fB (b0 l) = false) (h3 : X.2 = 0) (h4 : 48 < l.length) (h5 : Y.2 = 0) : rd1 l = fin1 (X.1, Y.1) (onB (X.1, Y.1)) := by
  subst hX; subst hY; unfold rd1; rw [if_neg (fun h3 => h3 h), if_neg (by rw [h2]; decide), if_neg (fun h => h h3), if_pos h4, if_neg (fun h => h h5)]
theorem rd1_neg {l : List Nat} {X : Fq × Int} {sq : Fq × Bool} (hX : X = rx l) (hs : sq = sqrtF (X.1 * X.1 * X.1 + Zp.of 4)) (h : (markE l 48).1 = 0) (h2 : fB (b0 l) = false) (h3 : X.2 = 0) (h4 : ¬ 48 < l.length) (h5 : largeF sq.1 ≠ lB (b0 l)) : rd1 l = fin1 (X.1, 0 - sq.1) sq.2 := by
  rw [← rs_eq hX] at hs
  subst hX; subst hs; unfold rd1; rw [if_neg (fun h3 => h3 h), if_neg (by rw [h2]; decide), if_neg (fun h => h h3), if_neg h4, if_pos h5]
theorem rd1_pos {l : List Nat} {X : Fq × Int} {sq : Fq × Bool} (hX : X = rx l) (hs : sq = sqrtF (X.1 * X.1 * X.1 + Zp.of 4)) (h : (markE l 48).1 = 0) (h2 : fB (b0 l) = false) (h3 : X.2 = 0) (h4 : ¬ 48 < l.length) (h5 : largeF sq.1 = lB (b0 l)) : rd1 l = fin1 (X.1, sq.1) sq.2 := by
  rw [← rs_eq hX] at hs
  subst hX; subst hs; unfold rd1; rw [if_neg (fun h3 => h3 h), if_neg (by rw [h2]; decide), if_neg (fun h => h h3), if_neg h4, if_neg (fun h => h h5)]
theorem fin_no {p : Pt} : fin1 p false = ((0, 0), 13) := if_pos (.inl rfl)
theorem fin_zero {p : Pt} {ok : Bool} (h : p = (0, 0)) : fin1 p ok = ((0, 0), 13) := if_pos (.inr h)
theorem fin_grp {p : Pt} (h : p ≠ (0, 0)) (h2 : inB p = false) : fin1 p true = ((0, 0), 14) := by unfold fin1; rw [if_neg (fun h3 => h3.elim (fun h => by cases h) h), if_pos h2]
theorem fin_ok {p : Pt} (h : p ≠ (0, 0)) (h2 : inB p = true) : fin1 p true = (p, 0) := by unfold fin1; rw [if_neg (fun h3 => h3.elim (fun h => by cases h) h), if_neg (by rw [h2]; decide)]
theorem rd_post {l : List Nat} {p : Pt} {e : Int} (h : rd1 l = (p, e)) : Value.tuple #[encP p, .int .i64 e] = .tuple #[encP (rd1 l).1, .int .i64 (rd1 l).2] := by rw [h]
theorem ne_of_bne {a : Int} (h : (a != 0) = true) : a ≠ 0 := by simpa using h
theorem eq_of_bne {a : Int} (h : (a != 0) = false) : a = 0 := by simpa using h
attribute [local irreducible] sqrtF readF inB

theorem en20 : Vm.Enters Tryd.prog 20 := Vm.Enters.of fun _ _ => by kernel_rfl
theorem en36 : Vm.Enters Tryd.prog 36 := Vm.Enters.of fun _ _ => by kernel_rfl
theorem en53 : Vm.Enters Tryd.prog 53 := Vm.Enters.of fun _ _ => by kernel_rfl
set_option maxHeartbeats 8000000 in
set_option maxRecDepth 100000 in
theorem ReadG1_ok {G' : Hp} {v : Value} {l : List Nat} (hB : Bs G' v l) (hlen0 : l.length ≤ 1000000) {w : World} (hG : Blocks (G' ++ GH T) w)  : Vm.Pure Tryd.prog 12 #[v] w (.tuple #[encP (rd1 l).1, .int .i64 (rd1 l).2]) := by
  obtain ⟨ad, cap, hvv⟩ := hB.shape
  refine pure_of_W (n := 87) (args := [v]) Tryd.func12 rfl Tryd.ntmps12 (Nat.le_of_ble_eq_true rfl) hG ?_
  refine sStart ?_
  refine sSeq ?_
  subst hvv
  refine W.region ?_
  refine OpsW.fresh (fr_alloc z31r) rfl fun b2 => ?_
  refine OpsW.det (det_assign rfl) rfl ?_
  refine sNext ?_
  refine W.keep (F' := [(2, _), (0, _)]) ⟨rfl, rfl, trivial⟩ ?_
  refine sSeq ?_
  rcases Decidable.em ((markE l 48).1 = 0) with hE | hE
  · skip
    refine W.region ?_
    refine OpsW.det (det_move rfl) rfl ?_
    refine OpsW.new (new_call en53 rfl (fun w hb ho => chead_ok_ok (G' := G') (n := 48) hB (by decide) (by decide) hlen0 hE ho.blocks)) rfl fun p14 hp14 => ?_
    refine OpsW.norm (F' := [(14, _), (13, _), (2, _), (0, _)]) (H' := [(p14.1, blk (bcells (cl l) ++ p14.2.2) 5), (b2, _)]) rfl rfl ?_
    refine OpsW.det (det_move rfl) rfl ?_
    refine OpsW.det (det_extract rfl rfl) rfl ?_
    refine OpsW.det (det_extract rfl rfl) rfl ?_
    refine OpsW.det (det_extract rfl rfl) rfl ?_
    refine OpsW.det (det_extract rfl rfl) rfl ?_
    refine OpsW.det (det_assign rfl) rfl ?_
    refine OpsW.det (det_assign rfl) rfl ?_
    refine OpsW.det (det_assign rfl) rfl ?_
    refine OpsW.det (det_assign rfl) rfl ?_
    refine sNext ?_
    refine W.keep (F' := [(7, _), (6, _), (5, _), (4, _), (2, _)]) ⟨rfl, rfl, rfl, rfl, rfl, trivial⟩ ?_
    refine sSeq ?_
    refine sSeq ?_
    refine W.region ?_
    refine OpsW.det (det_move rfl) rfl ?_
    refine OpsW.det (Det.to (det_neq rfl rfl) (congrArg Value.bool (rfl))) rfl ?_
    refine OpsW.det (det_move rfl) rfl ?_
    refine OpsW.guard_yes rfl rfl ?_
    refine OpsW.det (det_move rfl) rfl ?_
    refine OpsW.det (det_pick rfl rfl) rfl ?_
    refine sNext ?_
    refine W.keep (F' := [(23, _), (7, _), (6, _), (4, _), (2, _)]) ⟨rfl, rfl, rfl, rfl, rfl, trivial⟩ ?_
    refine W.cond rfl (fun hc23 => ?_) (fun hc23 => ?_)
    · skip
      refine sSeq ?_
      refine W.region ?_
      refine OpsW.det (det_zero bz31) rfl ?_
      refine OpsW.det (det_move rfl) rfl ?_
      refine OpsW.store sz31 rfl rfl rfl rfl rfl (Upd.there (Upd.here)) rfl ?_
      refine OpsW.det (det_assign rfl) rfl ?_
      refine sNext ?_
      refine W.keep (F' := [(3, _), (2, _)]) ⟨rfl, rfl, trivial⟩ ?_
      refine sRet ?_
      exact done2 Tryd.results12 (rv_cellA ty31 rfl (List.Mem.tail _ (List.Mem.head _)) rfl) (rv_tmp rfl) (rd_post (rd1_far hE hc23))
    · skip
      have hlens := mark_lens hE
      have hpos : 0 < l.length := by omega
      have hcap := hp14.2
      have hcB := cl_Bs (sp := l) (b := p14.1) (cap := p14.2.1) (sps := p14.2.2) hB.small hpos hp14.2
      have hcl := cl_len hpos
      have hT1 := Bs_take1 (k := 48) hcB (by omega)
      rw [hcl] at hcB
      refine sSkip ?_
      refine sSeq ?_
      obtain ⟨X, hX⟩ : ∃ X, X = rx l := ⟨_, rfl⟩
      refine W.region ?_
      refine OpsW.det (det_move rfl) rfl ?_
      refine OpsW.det ((det_slice (lo := none) (hi := some (.const (.int .i64 48))) (l := 0) (h := 48) u22 sz5 rfl rfl ⟨_, rfl⟩ (by omega) (by omega) (by omega)).to (v := .slice (some ⟨p14.1, 0, none⟩) 48 p14.2.1) (by simp)) rfl ?_
      refine OpsW.det ((det_call en15 rfl (fun w hb ho => Read_ok (G' := [(p14.1, blk (bcells (cl l) ++ p14.2.2) 5)]) (l := (cl l).take 48) hT1 (blocks_cons (hb _ (by repeat (first | exact List.Mem.head _ | apply List.Mem.tail))) (fun p hp => ho.look (List.mem_append_right _ hp))))).to (v := .tuple #[encF X.1, .int .i64 X.2]) (read_to (hX.trans (rx_eq l)))) rfl ?_
      refine OpsW.det (det_move rfl) rfl ?_
      refine OpsW.det (det_extract rfl rfl) rfl ?_
      refine OpsW.det (det_extract rfl rfl) rfl ?_
      refine OpsW.fresh (fr_alloc z29w) rfl fun b8 => ?_
      refine OpsW.store sz29 rfl rfl rfl rfl rfl (Upd.here) rfl ?_
      refine OpsW.det (det_assign rfl) rfl ?_
      refine sNext ?_
      refine W.keep (F' := [(7, _), (8, _), (6, _), (4, _), (2, _)]) ⟨rfl, rfl, rfl, rfl, rfl, trivial⟩ ?_
      refine sSeq ?_
      refine sSeq ?_
      refine W.region ?_
      refine OpsW.det (det_move rfl) rfl ?_
      refine OpsW.det (det_neq rfl rfl) rfl ?_
      refine sNext ?_
      refine W.keep (F' := [(33, _), (7, _), (8, _), (6, _), (4, _), (2, _)]) ⟨rfl, rfl, rfl, rfl, rfl, rfl, trivial⟩ ?_
      refine W.cond rfl (fun hc33 => ?_) (fun hc33 => ?_)
      · skip
        refine sSeq ?_
        refine W.region ?_
        refine OpsW.det (det_zero bz31) rfl ?_
        refine OpsW.det (det_move rfl) rfl ?_
        refine OpsW.store sz31 rfl rfl rfl rfl rfl (Upd.there (Upd.there (Upd.here))) rfl ?_
        refine OpsW.det (det_assign rfl) rfl ?_
        refine sNext ?_
        refine W.keep (F' := [(3, _), (2, _)]) ⟨rfl, rfl, trivial⟩ ?_
        refine sRet ?_
        exact done2 Tryd.results12 (rv_cellA ty31 rfl (List.Mem.tail _ (List.Mem.tail _ (List.Mem.head _))) rfl) (rv_tmp rfl) (rd_post (rd1_x hX hE hc23 (ne_of_bne hc33)))
      · skip
        refine sSkip ?_
        refine sSeq ?_
        obtain ⟨sq, hsq⟩ : ∃ s, s = sqrtF (X.1 * X.1 * X.1 + Zp.of 4) := ⟨_, rfl⟩
        refine W.draw mixed 11 [[], [0], [], [0, 1, 2], [0, 1, 2, 3], [0, 1, 2, 3, 4], [0, 1, 2, 3, 4, 5], [0, 1, 2, 3, 4, 5, 6], [0, 1, 2, 3, 4, 5, 6, 7], [0, 1, 2, 3, 4, 5, 6, 7], [], [0, 1, 2, 3, 4, 5, 6, 7, 8, 10], [0, 1, 2, 3, 4, 5, 6, 7, 8, 9, 10, 11]] (cl_lt (by decide)) ?_
        refine HeadR.start (cl_lt (by decide)) ?_
        refine HeadR.det rfl (fun β hβ => (det_loadA ty29 rfl (List.Mem.head _) rfl)) ?_
        refine HeadR.det rfl (fun β hβ => (det_call en16 rfl (fun w hb ho => Cu.Square_ok (fun p hp => ho.look (List.mem_append_right _ hp))))) ?_
        refine HeadR.det rfl (fun β hβ => (det_loadA ty29 rfl (List.Mem.head _) rfl)) ?_
        refine HeadR.det rfl (fun β hβ => (det_call en17 rfl (fun w hb ho => Cu.Mul_ok (fun p hp => ho.look (List.mem_append_right _ hp))))) ?_
        refine HeadR.det rfl (fun β hβ => (det_call en19 rfl (fun w hb ho => Of_ok (n := 4) (by decide) (fun p hp => ho.look (List.mem_append_right _ hp))))) ?_
        refine HeadR.det rfl (fun β hβ => (det_call en18 rfl (fun w hb ho => Cu.Add_ok (fun p hp => ho.look (List.mem_append_right _ hp))))) ?_
        refine HeadR.det rfl (fun β hβ => ((det_call en21 rfl (fun w hb ho => Sqrt_ok (x := X.1 * X.1 * X.1 + Zp.of 4) (fun p hp => ho.look (List.mem_append_right _ hp)))).to (v := .tuple #[encF sq.1, .bool sq.2]) (sqrt_to hsq))) ?_
        refine HeadR.det rfl (fun β hβ => (det_move rfl)) ?_
        refine HeadR.det rfl (fun β hβ => (det_extract rfl rfl)) ?_
        refine HeadR.flt rfl (fun _ _ _ _ hs => flt_extract hs rfl rfl) ?_
        refine HeadR.fresh rfl (fun β hβ => (fr_alloc z29w).new) ?_
        refine HeadR.done ⟨by kernel_rfl, fun β hβ => ?_⟩
        refine OpsW.norm (F' := [(37, _), (38, _), (39, _), (40, _), (41, _), (42, _), (43, _), (36, _), (44, _), (45, _), (9, .pointer (some ⟨(β 9).1, 0, none⟩)), (33, _), (7, _), (8, _), (6, _), (4, _), (2, _)]) (H' := [(_, _), (_, _), (_, _), (_, _)]) rfl rfl ?_
        generalize (β 9).1 = b9
        refine OpsW.store sz29 rfl rfl rfl rfl rfl (Upd.here) rfl ?_
        refine OpsW.det (det_assign rfl) rfl ?_
        refine sNext ?_
        refine W.keep (F' := [(10, _), (9, _), (8, _), (6, _), (4, _), (2, _)]) ⟨rfl, rfl, rfl, rfl, rfl, rfl, trivial⟩ ?_
        refine sSeq ?_
        refine sSeq ?_
        refine sCut2 (σ := Fq × Bool) (fun s => [(10, .bool s.2), (9, .pointer (some ⟨b9, 0, none⟩)), (8, .pointer (some ⟨b8, 0, none⟩)), (2, .pointer (some ⟨b2, 0, none⟩))]) (fun s => [(b9, blk (cellsF s.1) 29), (b8, blk (cellsF X.1) 29), (b2, blk (cellsP (0, 0)) 31)]) (fun s => rd1 l = fin1 (X.1, s.1) s.2) ?_ ?_
        · skip
          refine W.region ?_
          refine OpsW.det (det_move rfl) rfl ?_
          refine OpsW.det (det_len u22 rfl) rfl ?_
          refine OpsW.det (det_gtr rfl rfl) rfl ?_
          refine sNext ?_
          refine W.keep (F' := [(48, _), (10, _), (9, _), (8, _), (6, _), (4, _), (2, _)]) ⟨rfl, rfl, rfl, rfl, rfl, rfl, rfl, trivial⟩ ?_
          refine W.cond rfl (fun hc48 => ?_) (fun hc48 => ?_)
          · skip
            have h48 : 48 < l.length := by have h := hc48; simp only [decide_eq_true_eq] at h; omega
            have hT2 := Bs_drop1 (k := 48) (show Bs [(p14.1, blk (bcells (cl l) ++ p14.2.2) 5)] (.slice (some ⟨p14.1, 0, none⟩) (cl l).length p14.2.1) (cl l) by rw [hcl]; exact hcB) (by omega)
            rw [hcl] at hT2
            refine sSeq ?_
            refine sSeq ?_
            obtain ⟨Y, hY⟩ : ∃ Y, Y = ry l := ⟨_, rfl⟩
            refine W.region ?_
            refine OpsW.det (det_move rfl) rfl ?_
            refine OpsW.det ((det_slice (lo := some (.const (.int .i64 48))) (hi := none) (l := 48) (h := l.length) u22 sz5 rfl ⟨_, rfl⟩ rfl (by omega) (by omega) (by omega)).to (v := .slice (some ⟨p14.1, 0 + 48, none⟩) (l.length - 48) (p14.2.1 - 48)) (by rw [if_neg (by omega), Nat.mul_one])) rfl ?_
            refine OpsW.det ((det_call en15 rfl (fun w hb ho => Read_ok (G' := [(p14.1, blk (bcells (cl l) ++ p14.2.2) 5)]) (l := (cl l).drop 48) hT2 (blocks_cons (hb _ (by repeat (first | exact List.Mem.head _ | apply List.Mem.tail))) (fun p hp => ho.look (List.mem_append_right _ hp))))).to (v := .tuple #[encF Y.1, .int .i64 Y.2]) (read_to (hY.trans (ry_eq l)))) rfl ?_
            refine OpsW.det (det_move rfl) rfl ?_
            refine OpsW.det (det_extract rfl rfl) rfl ?_
            refine OpsW.det (det_extract rfl rfl) rfl ?_
            refine OpsW.store sz29 rfl rfl rfl rfl rfl (Upd.here) rfl ?_
            refine OpsW.det (det_assign rfl) rfl ?_
            refine sNext ?_
            refine W.keep (F' := [(7, _), (9, _), (8, _), (2, _)]) ⟨rfl, rfl, rfl, rfl, trivial⟩ ?_
            refine sSeq ?_
            refine W.region ?_
            refine OpsW.det (det_move rfl) rfl ?_
            refine OpsW.det (det_neq rfl rfl) rfl ?_
            refine sNext ?_
            refine W.keep (F' := [(56, _), (7, _), (9, _), (8, _), (2, _)]) ⟨rfl, rfl, rfl, rfl, rfl, trivial⟩ ?_
            refine W.cond rfl (fun hc56 => ?_) (fun hc56 => ?_)
            · skip
              refine sSeq ?_
              refine W.region ?_
              refine OpsW.det (det_zero bz31) rfl ?_
              refine OpsW.det (det_move rfl) rfl ?_
              refine OpsW.store sz31 rfl rfl rfl rfl rfl (Upd.there (Upd.there (Upd.there (Upd.here)))) rfl ?_
              refine OpsW.det (det_assign rfl) rfl ?_
              refine sNext ?_
              refine W.keep (F' := [(3, _), (2, _)]) ⟨rfl, rfl, trivial⟩ ?_
              refine sRet ?_
              refine cutRet ?_
              exact done2 Tryd.results12 (rv_cellA ty31 rfl (List.Mem.tail _ (List.Mem.tail _ (List.Mem.tail _ (List.Mem.head _)))) rfl) (rv_tmp rfl) (rd_post (rd1_y hX hY hE hc23 (eq_of_bne hc33) h48 (ne_of_bne hc56)))
            · skip
              refine sSkip ?_
              refine W.region ?_
              refine OpsW.det (det_loadA ty29 rfl (List.Mem.tail _ (List.Mem.head _)) rfl) rfl ?_
              refine OpsW.det (det_loadA ty29 rfl (List.Mem.head _) rfl) rfl ?_
              refine OpsW.det (det_build rfl bld31) rfl ?_
              refine OpsW.det (det_call en36 rfl (fun w hb ho => POn_ok (fun p hp => ho.look (List.mem_append_right _ hp)))) rfl ?_
              refine OpsW.det (det_assign rfl) rfl ?_
              refine sLast ?_
              refine cutOk (Y.1, onB (X.1, Y.1)) (rd1_long hX hY hE hc23 (eq_of_bne hc33) h48 (eq_of_bne hc56)) ⟨rfl, rfl, rfl, rfl, trivial⟩ ?_
              repeat (first | exact List.Sublist.refl _ | exact List.nil_sublist _ | refine List.Sublist.cons_cons _ ?_ | refine List.Sublist.cons _ ?_)
          · skip
            have h48 : ¬ 48 < l.length := by have h := hc48; simp only [decide_eq_false_iff_not] at h; omega
            refine sSeq ?_
            refine W.region ?_
            refine OpsW.det (det_loadA ty29 rfl (List.Mem.head _) rfl) rfl ?_
            refine OpsW.det (det_call en22 rfl (fun w hb ho => Cu.Large_ok (fun p hp => ho.look (List.mem_append_right _ hp)))) rfl ?_
            refine OpsW.det (det_move rfl) rfl ?_
            refine OpsW.det (det_neqb u4 rfl rfl) rfl ?_
            refine sNext ?_
            refine W.keep (F' := [(66, _), (10, _), (9, _), (8, _), (2, _)]) ⟨rfl, rfl, rfl, rfl, rfl, trivial⟩ ?_
            refine W.cond rfl (fun hc66 => ?_) (fun hc66 => ?_)
            · skip
              refine W.region ?_
              refine OpsW.det (det_loadA ty29 rfl (List.Mem.head _) rfl) rfl ?_
              refine OpsW.det (det_call en23 rfl (fun w hb ho => Cu.Neg_ok (fun p hp => ho.look (List.mem_append_right _ hp)))) rfl ?_
              refine OpsW.store sz29 rfl rfl rfl rfl rfl (Upd.here) rfl ?_
              refine sLast ?_
              refine cutOk (0 - sq.1, sq.2) (rd1_neg hX hsq hE hc23 (eq_of_bne hc33) h48 (by have h := hc66; simpa using h)) ⟨rfl, rfl, rfl, rfl, trivial⟩ ?_
              repeat (first | exact List.Sublist.refl _ | exact List.nil_sublist _ | refine List.Sublist.cons_cons _ ?_ | refine List.Sublist.cons _ ?_)
            · skip
              refine sSkip0 ?_
              refine cutOk (sq.1, sq.2) (rd1_pos hX hsq hE hc23 (eq_of_bne hc33) h48 (by have h := hc66; simpa using h)) ⟨rfl, rfl, rfl, rfl, trivial⟩ ?_
              repeat (first | exact List.Sublist.refl _ | exact List.nil_sublist _ | refine List.Sublist.cons_cons _ ?_ | refine List.Sublist.cons _ ?_)
        · skip
          rintro ⟨y, okb⟩ hrd
          change rd1 l = fin1 (X.1, y) okb at hrd
          refine W.norm (F' := [(10, .bool okb), (9, .pointer (some ⟨b9, 0, none⟩)), (8, .pointer (some ⟨b8, 0, none⟩)), (2, .pointer (some ⟨b2, 0, none⟩))]) (H' := [(b9, blk (cellsF y) 29), (b8, blk (cellsF X.1) 29), (b2, blk (cellsP (0, 0)) 31)]) rfl rfl ?_
          refine sSeq ?_
          refine W.region ?_
          refine OpsW.det (det_loadA ty29 rfl (List.Mem.tail _ (List.Mem.head _)) rfl) rfl ?_
          refine OpsW.det (det_loadA ty29 rfl (List.Mem.head _) rfl) rfl ?_
          refine OpsW.det (det_build rfl bld31) rfl ?_
          refine OpsW.fresh (fr_alloc z31r) rfl fun b11 => ?_
          refine OpsW.store sz31 rfl rfl rfl rfl rfl (Upd.here) rfl ?_
          refine sNext ?_
          refine W.keep (F' := [(11, _), (10, _), (2, _)]) ⟨rfl, rfl, rfl, trivial⟩ ?_
          refine sSeq ?_
          refine sBlock ?_
          refine sSeq ?_
          rcases okb with _ | _
          · skip
            refine W.region ?_
            refine OpsW.det (det_move rfl) rfl ?_
            refine OpsW.det (det_not rfl) rfl ?_
            refine OpsW.det (det_move rfl) rfl ?_
            refine OpsW.guard_no rfl rfl rfl ?_
            refine OpsW.guard_no rfl rfl rfl ?_
            refine OpsW.guard_no rfl rfl rfl ?_
            refine OpsW.det (det_pick rfl rfl) rfl ?_
            refine OpsW.det (det_assign rfl) rfl ?_
            refine sNext ?_
            refine W.keep (F' := [(72, _), (11, _), (2, _)]) ⟨rfl, rfl, rfl, trivial⟩ ?_
            refine W.cond_true rfl ?_
            refine sSeq ?_
            refine W.region ?_
            refine OpsW.det (det_zero bz31) rfl ?_
            refine OpsW.store sz31 rfl rfl rfl rfl rfl (Upd.there (Upd.there (Upd.there (Upd.here)))) rfl ?_
            refine OpsW.det (det_assign rfl) rfl ?_
            refine sNext ?_
            refine W.keep (F' := [(3, _), (2, _)]) ⟨rfl, rfl, trivial⟩ ?_
            refine sRet ?_
            refine retBlk ?_
            exact done2 Tryd.results12 (rv_cellA ty31 rfl (List.Mem.tail _ (List.Mem.tail _ (List.Mem.tail _ (List.Mem.head _)))) rfl) (rv_tmp rfl) (rd_post (hrd.trans fin_no))
          · skip
            refine W.region ?_
            refine OpsW.det (det_move rfl) rfl ?_
            refine OpsW.det (det_not rfl) rfl ?_
            refine OpsW.det (det_move rfl) rfl ?_
            refine OpsW.guard_yes rfl rfl ?_
            refine OpsW.det (det_loadA ty31 rfl (List.Mem.head _) rfl) rfl ?_
            refine OpsW.guard_yes rfl rfl ?_
            refine OpsW.det (det_zero bz31) rfl ?_
            refine OpsW.guard_yes rfl rfl ?_
            refine OpsW.det (det_eql31 rfl rfl) rfl ?_
            refine OpsW.det (det_pick rfl rfl) rfl ?_
            refine OpsW.det (det_assign rfl) rfl ?_
            refine sNext ?_
            refine W.keep (F' := [(72, _), (11, _), (2, _)]) ⟨rfl, rfl, rfl, trivial⟩ ?_
            refine W.cond rfl (fun hc72 => ?_) (fun hc72 => ?_)
            · skip
              refine sSeq ?_
              refine W.region ?_
              refine OpsW.det (det_zero bz31) rfl ?_
              refine OpsW.store sz31 rfl rfl rfl rfl rfl (Upd.there (Upd.there (Upd.there (Upd.here)))) rfl ?_
              refine OpsW.det (det_assign rfl) rfl ?_
              refine sNext ?_
              refine W.keep (F' := [(3, _), (2, _)]) ⟨rfl, rfl, trivial⟩ ?_
              refine sRet ?_
              refine retBlk ?_
              exact done2 Tryd.results12 (rv_cellA ty31 rfl (List.Mem.tail _ (List.Mem.tail _ (List.Mem.tail _ (List.Mem.head _)))) rfl) (rv_tmp rfl) (rd_post (hrd.trans (fin_zero (of_decide_eq_true hc72))))
            · skip
              refine sSeq ?_
              refine W.region ?_
              refine OpsW.det (det_loadA ty31 rfl (List.Mem.head _) rfl) rfl ?_
              refine OpsW.det (det_call en20 rfl (fun w hb ho => PIn_ok (fun p hp => ho.look (List.mem_append_right _ hp)))) rfl ?_
              refine OpsW.det (det_not rfl) rfl ?_
              refine OpsW.det (det_assign rfl) rfl ?_
              refine sNext ?_
              refine W.keep (F' := [(81, _), (11, _), (2, _)]) ⟨rfl, rfl, rfl, trivial⟩ ?_
              refine W.cond rfl (fun hc81 => ?_) (fun hc81 => ?_)
              · skip
                refine sSeq ?_
                refine W.region ?_
                refine OpsW.det (det_zero bz31) rfl ?_
                refine OpsW.store sz31 rfl rfl rfl rfl rfl (Upd.there (Upd.there (Upd.there (Upd.here)))) rfl ?_
                refine OpsW.det (det_assign rfl) rfl ?_
                refine sNext ?_
                refine W.keep (F' := [(3, _), (2, _)]) ⟨rfl, rfl, trivial⟩ ?_
                refine sRet ?_
                refine retBlk ?_
                exact done2 Tryd.results12 (rv_cellA ty31 rfl (List.Mem.tail _ (List.Mem.tail _ (List.Mem.tail _ (List.Mem.head _)))) rfl) (rv_tmp rfl) (rd_post (hrd.trans (fin_grp (of_decide_eq_false hc72) (by simpa using hc81))))
              · skip
                refine sSkip0 ?_
                refine bNext ?_
                refine W.keep (F' := [(11, _), (2, _)]) ⟨rfl, rfl, trivial⟩ ?_
                refine sSeq ?_
                refine W.region ?_
                refine OpsW.det (det_loadA ty31 rfl (List.Mem.head _) rfl) rfl ?_
                refine OpsW.store sz31 rfl rfl rfl rfl rfl (Upd.there (Upd.there (Upd.there (Upd.here)))) rfl ?_
                refine OpsW.det (det_assign rfl) rfl ?_
                refine sNext ?_
                refine W.keep (F' := [(3, _), (2, _)]) ⟨rfl, rfl, trivial⟩ ?_
                refine sRet ?_
                exact done2 Tryd.results12 (rv_cellA ty31 rfl (List.Mem.tail _ (List.Mem.tail _ (List.Mem.tail _ (List.Mem.head _)))) rfl) (rv_tmp rfl) (rd_post (hrd.trans (fin_ok (of_decide_eq_false hc72) (by simpa using hc81))))
  · skip
    refine W.region ?_
    refine OpsW.det (det_move rfl) rfl ?_
    refine OpsW.det (det_call en53 rfl (fun w hb ho => chead_no_ok (G' := G') (n := 48) hB (by decide) (by decide) hlen0 hE ho.blocks)) rfl ?_
    refine OpsW.det (det_move rfl) rfl ?_
    refine OpsW.det (det_extract rfl rfl) rfl ?_
    refine OpsW.det (det_extract rfl rfl) rfl ?_
    refine OpsW.det (det_extract rfl rfl) rfl ?_
    refine OpsW.det (det_extract rfl rfl) rfl ?_
    refine OpsW.det (det_assign rfl) rfl ?_
    refine OpsW.det (det_assign rfl) rfl ?_
    refine OpsW.det (det_assign rfl) rfl ?_
    refine OpsW.det (det_assign rfl) rfl ?_
    refine sNext ?_
    refine W.keep (F' := [(7, _), (6, _), (5, _), (4, _), (2, _)]) ⟨rfl, rfl, rfl, rfl, rfl, trivial⟩ ?_
    refine sSeq ?_
    refine sSeq ?_
    refine W.region ?_
    refine OpsW.det (det_move rfl) rfl ?_
    refine OpsW.det (Det.to (det_neq rfl rfl) (congrArg Value.bool ((bne_iff_ne.2 hE)))) rfl ?_
    refine OpsW.det (det_move rfl) rfl ?_
    refine OpsW.guard_no rfl rfl rfl ?_
    refine OpsW.det (det_pick rfl rfl) rfl ?_
    refine sNext ?_
    refine W.keep (F' := [(23, _), (7, _), (6, _), (4, _), (2, _)]) ⟨rfl, rfl, rfl, rfl, rfl, trivial⟩ ?_
    refine W.cond_true rfl ?_
    refine sSeq ?_
    refine W.region ?_
    refine OpsW.det (det_zero bz31) rfl ?_
    refine OpsW.det (det_move rfl) rfl ?_
    refine OpsW.store sz31 rfl rfl rfl rfl rfl (Upd.here) rfl ?_
    refine OpsW.det (det_assign rfl) rfl ?_
    refine sNext ?_
    refine W.keep (F' := [(3, _), (2, _)]) ⟨rfl, rfl, trivial⟩ ?_
    refine sRet ?_
    exact done2 Tryd.results12 (rv_cellA ty31 rfl (List.Mem.head _) rfl) (rv_tmp rfl) (rd_post (rd1_mark hE))

end Go.Cu

/- What the reading of a point of the first group comes to: the errors, the roots. -/
namespace Go.Cu
open Go Go.Vm
set_option linter.unusedVariables false
set_option linter.unusedSimpArgs false
set_option linter.unusedSectionVars false
open CR
theorem four_eq : four = Zp.of 4 := rfl
theorem four_ne : (0 : Fq) * 0 ≠ 0 * 0 * 0 + Zp.of 4 := by decide +kernel
theorem fin_of {q : Pt} (h : q.2 * q.2 = q.1 * q.1 * q.1 + Zp.of 4) : onB q = true ∧ q ≠ (0, 0) := by
  refine ⟨?_, fun e => ?_⟩
  · unfold onB
    rw [Bool.or_eq_true]; right
    exact decide_eq_true h
  · rw [e] at h
    exact four_ne h
theorem fin_curve {q : Pt} (h : ¬ q.2 * q.2 = q.1 * q.1 * q.1 + Zp.of 4) : fin1 q (onB q) = ((0, 0), 13) := by
  by_cases hz : q = (0, 0)
  · exact fin_zero hz
  · have : onB q = false := by
      unfold onB
      rw [decide_eq_false hz, Bool.false_or]
      exact decide_eq_false h
    rw [this]; exact fin_no
theorem sqrtF_sq {x : Fq} {s : Fq × Bool} (hs : s = sqrtF x) (h : s.2 = true) : s.1 * s.1 = x := by
  subst hs
  unfold sqrtF at h ⊢
  split at h
  · rename_i hr
    rw [if_pos hr]
    exact hr
  · cases h
theorem neg_sq {y c : Fq} (h : y * y = c) : (0 - y) * (0 - y) = c := by
  rw [← h]
  exact (show ((0 - y) * (0 - y)) = (y * y) from ring_id (fun vi_ => vget vi_ [y]) (.mul (.sub .zero (.var 0)) (.sub .zero (.var 0))) (.mul (.var 0) (.var 0)) (by kernel_rfl))
theorem fin_err {p : Pt} {ok : Bool} (h : (fin1 p ok).2 ≠ 0) : (fin1 p ok).1 = (0, 0) := by
  unfold fin1 at h ⊢
  split
  · rfl
  · rename_i h1
    rw [if_neg h1] at h
    split
    · rfl
    · rename_i h2
      rw [if_neg h2] at h
      exact absurd rfl h
theorem rd1_err {l : List Nat} {R : Pt × Int} (hR : R = rd1 l) (h : R.2 ≠ 0) : R.1 = (0, 0) := by
  by_cases h1 : (markE l 48).1 = 0
  · rcases h2 : fB (b0 l) with _ | _
    · obtain ⟨X, hX⟩ : ∃ X, X = rx l := ⟨_, rfl⟩
      by_cases h3 : X.2 = 0
      · by_cases h4 : 48 < l.length
        · obtain ⟨Y, hY⟩ : ∃ Y, Y = ry l := ⟨_, rfl⟩
          by_cases h5 : Y.2 = 0
          · rw [rd1_long hX hY h1 h2 h3 h4 h5] at hR; subst hR; exact fin_err h
          · rw [rd1_y hX hY h1 h2 h3 h4 h5] at hR; rw [hR]
        · obtain ⟨sq, hs⟩ : ∃ s, s = sqrtF (X.1 * X.1 * X.1 + Zp.of 4) := ⟨_, rfl⟩
          by_cases h5 : largeF sq.1 = lB (b0 l)
          · rw [rd1_pos hX hs h1 h2 h3 h4 h5] at hR; subst hR; exact fin_err h
          · rw [rd1_neg hX hs h1 h2 h3 h4 h5] at hR; subst hR; exact fin_err h
      · rw [rd1_x hX h1 h2 h3] at hR; rw [hR]
    · rw [rd1_far h1 h2] at hR; rw [hR]
  · rw [rd1_mark h1] at hR; rw [hR]
theorem mark_far {l : List Nat} {n : Nat} (h : (markE l n).1 = 0) : (markE l n).2 = fB (b0 l) := by
  unfold markE at h ⊢
  split
  · rename_i h1; rw [if_pos h1] at h; cases h
  · rename_i h1
    rw [if_neg h1] at h
    split
    · rename_i h2; rw [if_pos h2] at h; cases h
    · rename_i h2
      rw [if_neg h2] at h
      split
      · rename_i h3; rw [if_pos h3] at h; cases h
      · rfl
theorem readF_err {l : List Nat} {X : Fq × Int} (hX : X = readF l) (h : l.length = 48) (h2 : X.2 ≠ 0) : X.2 = 12 := by
  subst hX
  by_cases h3 : beN l < pp
  · rw [readF_yes h h3] at h2; exact absurd rfl h2
  · rw [readF_no h h3]
theorem rx_len {l : List Nat} (h : 48 ≤ l.length) : ((cl l).take 48).length = 48 := by rw [List.length_take, cl_len (by omega)]; omega
theorem ry_len {l : List Nat} (h : l.length = 96) : ((cl l).drop 48).length = 48 := by rw [List.length_drop, cl_len (by omega)]; omega
theorem fin_and31 : ∀ b : Fin 256, bitsOf .and .u8 ((b.val : Nat) : Int) 31 = ((b.val % 32 : Nat) : Int) := by decide +kernel
theorem and31_at {b : Nat} (h : b < 256) : bitsOf .and .u8 ((b : Nat) : Int) 31 = ((b % 32 : Nat) : Int) := fin_and31 ⟨b, h⟩
end Go.Cu

/- The field with i: what its roots are. -/
namespace Go.Cw
open Go.Cu Go.Ec
open Go Go.Vm
set_option linter.unusedVariables false
set_option linter.unusedSimpArgs false
set_option linter.unusedSectionVars false
open CR
/-! ### Roots -/
theorem sqrtF_ok {x : Fq} (h : (sqrtF x).2 = true) : (sqrtF x).1 * (sqrtF x).1 = x := by
  unfold sqrtF at h ⊢
  split at h
  · rename_i hr; rw [if_pos hr]; exact hr
  · cases h
theorem root_sq (x : Fq) : root x * root x = x * pw x ((pp - 1) / 2) := by
  unfold root
  rw [← pw_add, show ppq + ppq = (pp - 1) / 2 + 1 from by decide +kernel, pw, mul_comm]
theorem half_pm {x : Fq} (hx : x ≠ 0) : pw x ((pp - 1) / 2) = 1 ∨ pw x ((pp - 1) / 2) = -1 := by
  have h := fermat prime_pp hx
  rw [show pp - 1 = 2 * ((pp - 1) / 2) from by decide +kernel, pw_two] at h
  generalize pw x ((pp - 1) / 2) = t at h
  by_cases h1 : t = 1
  · exact .inl h1
  · right
    apply Classical.byContradiction
    intro h2
    refine Fld.mul_ne (a := t - 1) (b := t + 1) (fun e => h1 (eq_of_sub e)) (fun e => h2 (eq_of_sub (Eq.trans (show (t - (-1)) = (1 * ((t + 1) - 0)) from ring_id (fun vi_ => vget vi_ [t]) (.sub (.var 0) (.neg .one)) (.mul .one (.sub (.add (.var 0) .one) .zero)) (by kernel_rfl)) (lz e)))) ?_
    exact (eq_of_sub (Eq.trans (show (((t - 1) * (t + 1)) - 0) = (1 * ((t * t) - 1)) from ring_id (fun vi_ => vget vi_ [t]) (.sub (.mul (.sub (.var 0) .one) (.add (.var 0) .one)) .zero) (.mul .one (.sub (.mul (.var 0) (.var 0)) .one)) (by kernel_rfl)) (lz h)))
theorem pw_neg_one : pw (-1 : Fq) ((pp - 1) / 2) = -1 := by
  obtain ⟨k, hk⟩ : ∃ k, (pp - 1) / 2 = 2 * k + 1 := ⟨(pp - 3) / 4, by decide +kernel⟩
  rw [hk, pw, pw_mul, show pw (-1 : Fq) 2 = 1 from by decide +kernel, one_pw, one_mul]
/-- Of a number and its negative one has a root. -/
theorem sqrtF_neg {x : Fq} (h : (sqrtF x).2 = false) : (sqrtF (0 - x)).1 * (sqrtF (0 - x)).1 = 0 - x := by
  have hr : root x * root x ≠ x := fun e => by
    unfold sqrtF at h
    rw [if_pos e] at h; cases h
  have hx : x ≠ 0 := by
    rintro rfl
    exact hr (by rw [root_sq, zero_mul'])
  have ht : pw x ((pp - 1) / 2) = -1 := (half_pm hx).resolve_left fun e => hr (by rw [root_sq, e, mul_one'])
  have hn : root (0 - x) * root (0 - x) = 0 - x := by
    rw [root_sq, show (0 - x : Fq) = -1 * x from (show (0 - x) = ((-1) * x) from ring_id (fun vi_ => vget vi_ [x]) (.sub .zero (.var 0)) (.mul (.neg .one) (.var 0)) (by kernel_rfl)), mul_pw, pw_neg_one, ht]
    exact (show (((-1) * x) * ((-1) * (-1))) = ((-1) * x) from ring_id (fun vi_ => vget vi_ [x]) (.mul (.mul (.neg .one) (.var 0)) (.mul (.neg .one) (.neg .one))) (.mul (.neg .one) (.var 0)) (by kernel_rfl))
  unfold sqrtF
  rw [if_pos hn]
  exact hn
theorem sq_a {r a b : Fq} (hr : r * r = a) (hb : b = 0) : (⟨r, 0⟩ * ⟨r, 0⟩ : Fq2) = ⟨a, b⟩ := by
  subst hb
  refine Fq2.ext ?_ ?_
  · show r * r - 0 * 0 = a
    rw [hr]; exact (show (a - (0 * 0)) = a from ring_id (fun vi_ => vget vi_ [a]) (.sub (.var 0) (.mul .zero .zero)) (.var 0) (by kernel_rfl))
  · show (r + 0) * (r + 0) - r * r - 0 * 0 = 0
    exact (show ((((r + 0) * (r + 0)) - (r * r)) - (0 * 0)) = 0 from ring_id (fun vi_ => vget vi_ [r]) (.sub (.sub (.mul (.add (.var 0) .zero) (.add (.var 0) .zero)) (.mul (.var 0) (.var 0))) (.mul .zero .zero)) .zero (by kernel_rfl))
theorem sq_b {r a b : Fq} (hr : r * r = 0 - a) (hb : b = 0) : (⟨0, r⟩ * ⟨0, r⟩ : Fq2) = ⟨a, b⟩ := by
  subst hb
  refine Fq2.ext ?_ ?_
  · show 0 * 0 - r * r = a
    rw [hr]; exact (show ((0 * 0) - (0 - a)) = a from ring_id (fun vi_ => vget vi_ [a]) (.sub (.mul .zero .zero) (.sub .zero (.var 0))) (.var 0) (by kernel_rfl))
  · show (0 + r) * (0 + r) - 0 * 0 - r * r = 0
    exact (show ((((0 + r) * (0 + r)) - (0 * 0)) - (r * r)) = 0 from ring_id (fun vi_ => vget vi_ [r]) (.sub (.sub (.mul (.add .zero (.var 0)) (.add .zero (.var 0))) (.mul .zero .zero)) (.mul (.var 0) (.var 0))) .zero (by kernel_rfl))
theorem sq_c {a b n h A v : Fq} (hh : h + h = 1) (hn : n * n = a * a + b * b) (hA : A * A = (a + n) * h) (hv : A * v = 1) : (⟨A, b * h * v⟩ * ⟨A, b * h * v⟩ : Fq2) = ⟨a, b⟩ := by
  refine Fq2.ext ?_ ?_
  · show A * A - b * h * v * (b * h * v) = a
    exact (eq_of_sub (Eq.trans (show (((A * A) - (((b * h) * v) * ((b * h) * v))) - a) = (((((((h * h) * v) * v) * ((n * n) - ((a * a) + (b * b)))) + ((((((n - a) * h) * v) * v) + 1) * ((A * A) - ((a + n) * h)))) + ((-(((n - a) * h) * ((A * v) + 1))) * ((A * v) - 1))) + (a * ((h + h) - 1))) from ring_id (fun vi_ => vget vi_ [a, b, n, h, A, v]) (.sub (.sub (.mul (.var 4) (.var 4)) (.mul (.mul (.mul (.var 1) (.var 3)) (.var 5)) (.mul (.mul (.var 1) (.var 3)) (.var 5)))) (.var 0)) (.add (.add (.add (.mul (.mul (.mul (.mul (.var 3) (.var 3)) (.var 5)) (.var 5)) (.sub (.mul (.var 2) (.var 2)) (.add (.mul (.var 0) (.var 0)) (.mul (.var 1) (.var 1))))) (.mul (.add (.mul (.mul (.mul (.sub (.var 2) (.var 0)) (.var 3)) (.var 5)) (.var 5)) .one) (.sub (.mul (.var 4) (.var 4)) (.mul (.add (.var 0) (.var 2)) (.var 3))))) (.mul (.neg (.mul (.mul (.sub (.var 2) (.var 0)) (.var 3)) (.add (.mul (.var 4) (.var 5)) .one))) (.sub (.mul (.var 4) (.var 5)) .one))) (.mul (.var 0) (.sub (.add (.var 3) (.var 3)) .one))) (by kernel_rfl)) (lz2 (lz2 (lz2 (lz hn) (lz hA)) (lz hv)) (lz hh))))
  · show (A + b * h * v) * (A + b * h * v) - A * A - b * h * v * (b * h * v) = b
    exact (eq_of_sub (Eq.trans (show (((((A + ((b * h) * v)) * (A + ((b * h) * v))) - (A * A)) - (((b * h) * v) * ((b * h) * v))) - b) = (((b * (h + h)) * ((A * v) - 1)) + (b * ((h + h) - 1))) from ring_id (fun vi_ => vget vi_ [b, h, A, v]) (.sub (.sub (.sub (.mul (.add (.var 2) (.mul (.mul (.var 0) (.var 1)) (.var 3))) (.add (.var 2) (.mul (.mul (.var 0) (.var 1)) (.var 3)))) (.mul (.var 2) (.var 2))) (.mul (.mul (.mul (.var 0) (.var 1)) (.var 3)) (.mul (.mul (.var 0) (.var 1)) (.var 3)))) (.var 0)) (.add (.mul (.mul (.var 0) (.add (.var 1) (.var 1))) (.sub (.mul (.var 2) (.var 3)) .one)) (.mul (.var 0) (.sub (.add (.var 1) (.var 1)) .one))) (by kernel_rfl)) (lz2 (lz hv) (lz hh))))
theorem s2from_ok {a b h : Fq} (hh : h + h = 1) : ∀ (f : Nat) (n : Fq), n * n = a * a + b * b → (s2from ⟨a, b⟩ h f n).2 = true → (s2from ⟨a, b⟩ h f n).1 * (s2from ⟨a, b⟩ h f n).1 = ⟨a, b⟩
  | 0, n, _, h2 => by cases h2
  | f + 1, n, hn, h2 => by
    by_cases hc : (sqrtF ((a + n) * h)).2 = true ∧ (sqrtF ((a + n) * h)).1 ≠ 0
    · have e : s2from ⟨a, b⟩ h (f + 1) n = (⟨(sqrtF ((a + n) * h)).1, b * h * Cu.inv (sqrtF ((a + n) * h)).1⟩, true) := if_pos hc
      rw [e]
      exact sq_c hh hn (sqrtF_ok hc.1) (Fld.mul_finv _ hc.2)
    · have e : s2from ⟨a, b⟩ h (f + 1) n = s2from ⟨a, b⟩ h f (0 - n) := if_neg hc
      rw [e] at h2 ⊢
      exact s2from_ok hh f (0 - n) (eq_of_sub (Eq.trans (show (((0 - n) * (0 - n)) - ((a * a) + (b * b))) = (1 * ((n * n) - ((a * a) + (b * b)))) from ring_id (fun vi_ => vget vi_ [a, b, n]) (.sub (.mul (.sub .zero (.var 2)) (.sub .zero (.var 2))) (.add (.mul (.var 0) (.var 0)) (.mul (.var 1) (.var 1)))) (.mul .one (.sub (.mul (.var 2) (.var 2)) (.add (.mul (.var 0) (.var 0)) (.mul (.var 1) (.var 1))))) (by kernel_rfl)) (lz hn))) h2
theorem two_inv : Cu.inv (Zp.of 2) + Cu.inv (Zp.of 2) = (1 : Fq) := by
  have h2 := Fld.mul_finv (Zp.of 2 : Fq) (by decide +kernel)
  have h2 : (Zp.of 2 : Fq) * Cu.inv (Zp.of 2) = 1 := h2
  rw [← h2, show (Zp.of 2 : Fq) = 1 + 1 from by decide +kernel]
  obtain ⟨k, hk⟩ : ∃ k : Fq, k = Cu.inv (1 + 1) := ⟨_, rfl⟩
  rw [← hk]
  exact (show (k + k) = ((1 + 1) * k) from ring_id (fun vi_ => vget vi_ [k]) (.add (.var 0) (.var 0)) (.mul (.add .one .one) (.var 0)) (by kernel_rfl))
theorem sqrt2_ok {x : Fq2} (h : (sqrt2 x).2 = true) : (sqrt2 x).1 * (sqrt2 x).1 = x := by
  obtain ⟨a, b⟩ := x
  by_cases hb : b = 0
  · by_cases h1 : (sqrtF a).2 = true
    · have e : sqrt2 ⟨a, b⟩ = (⟨(sqrtF a).1, 0⟩, true) := (if_pos hb).trans (if_pos h1)
      rw [e]
      exact sq_a (sqrtF_ok h1) hb
    · have e : sqrt2 ⟨a, b⟩ = (⟨0, (sqrtF (0 - a)).1⟩, true) := (if_pos hb).trans (if_neg h1)
      rw [e]
      exact sq_b (sqrtF_neg (by simpa using h1)) hb
  · by_cases h1 : (sqrtF (norm2 ⟨a, b⟩)).2 = true
    · have e : sqrt2 ⟨a, b⟩ = s2from ⟨a, b⟩ (Cu.inv (Zp.of 2)) 2 (sqrtF (norm2 ⟨a, b⟩)).1 := (if_neg hb).trans (if_pos h1)
      rw [e] at h ⊢
      exact s2from_ok two_inv 2 _ (sqrtF_ok h1) h
    · have e : sqrt2 ⟨a, b⟩ = (0, false) := (if_neg hb).trans (if_neg h1)
      rw [e] at h; cases h
end Go.Cw
