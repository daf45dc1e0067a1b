/-
  DealSetups: the walk. Conditions: as long as memory's lists.
-/
import Derived.Test.YtndonmbemehefaaDoorSt4
namespace Go.Cu
open Go Go.Vm Go.RowKit Go.Proofs 
attribute [local irreducible] W OpsW Det Fresh New Writes Vm.Pure Makes Changes ExternTo BuildTo ZeroTo FieldTo IndexTo BinTo SliceTo Vm.Enters
set_option linter.unusedVariables false
set_option linter.unusedSimpArgs false
variable {T : Nat → TypeId × Nat × Nat}

theorem and15 (a : Int) : ∃ k : Nat, k < 16 ∧ bitsOf .and .i64 a 15 = (k : Int) := by
  refine ⟨(BitVec.ofInt IntKind.i64.bits a).toNat % 16, Nat.mod_lt _ (by decide), ?_⟩
  unfold bitsOf
  simp only [BitVec.toNat_and]
  rw [show (BitVec.ofInt IntKind.i64.bits (15 : Int)).toNat = 2 ^ 4 - 1 by rfl, Nat.and_two_pow_sub_one_eq_mod]
  have := Nat.mod_lt (BitVec.ofInt IntKind.i64.bits a).toNat (show 0 < 16 by decide)
  rw [wrap_i64 (by omega)]
def rightP (l1 l2 : List Int) (need : Int) (k : Nat) : Prop := setB l1 = true ∧ setB l2 = true ∧ 1 ≤ need ∧ need ≤ (l2.length : Int) ∧ k ≤ l1.length
instance (l1 l2 : List Int) (need : Int) (k : Nat) : Decidable (rightP l1 l2 need k) := by unfold rightP; exact inferInstance
theorem chk_of {l1 l2 : List Int} {need : Int} {k : Nat} : chkP l1 l2 need k ↔ rightP l1 l2 need k ∧ (k = 0 → l1 = l2) :=
  ⟨fun h => ⟨⟨h.1, h.2.1, h.2.2.1, h.2.2.2.1, h.2.2.2.2.2⟩, h.2.2.2.2.1⟩, fun h => ⟨h.1.1, h.1.2.1, h.1.2.2.1, h.1.2.2.2.1, h.2, h.1.2.2.2.2⟩⟩
theorem chk_zero (l1 l2 : List Int) (need : Int) (k : Nat) : (chkE l1 l2 need k == 0) = decide (chkP l1 l2 need k) := by
  unfold chkE; by_cases h : chkP l1 l2 need k
  · rw [if_pos h, decide_eq_true h]; rfl
  · rw [if_neg h, decide_eq_false h]; rfl
theorem chk_one {l1 l2 : List Int} {need : Int} {k : Nat} (h : (false : Bool) = decide (chkP l1 l2 need k)) : (chkE l1 l2 need k != 1) = false := by
  unfold chkE; rw [if_neg (of_decide_eq_false h.symm)]; rfl
theorem ne_same {a b : Bool} (h : a = b) : (a != b) = false := by subst h; cases a <;> rfl
/-- What is known in the comparing loop. -/
structure CmpI (R : Prop) (l1 l2 : List Int) (i : Nat) (r : Bool) : Prop where
  le : i ≤ l1.length
  yes : r = true → R ∧ l1.length = l2.length ∧ l1.take i = l2.take i
  no : r = false → ¬ (R ∧ l1 = l2)
theorem cmp_start {R : Prop} {l1 l2 : List Int} {r1 : Bool} [Decidable R] (h : r1 = decide R) (hr : r1 = true) {b : Bool} (hb : b = decide (l1.length = l2.length)) : CmpI R l1 l2 0 b :=
  ⟨Nat.zero_le _, fun h2 => ⟨of_decide_eq_true (h.symm.trans hr), of_decide_eq_true (hb.symm.trans h2), rfl⟩, fun h2 h3 => of_decide_eq_false (hb.symm.trans h2) (by rw [h3.2])⟩
theorem cmp_start0 {R : Prop} {l1 l2 : List Int} {r1 : Bool} [Decidable R] (h : r1 = decide R) (hr : r1 = false) : CmpI R l1 l2 0 false :=
  ⟨Nat.zero_le _, fun h2 => (by cases h2), fun _ h3 => of_decide_eq_false (h.symm.trans hr) h3.1⟩
theorem cmp_step {R : Prop} {l1 l2 : List Int} {i : Nat} (h : CmpI R l1 l2 i true) (h1 : i < l1.length) (h2 : i < l2.length) : CmpI R l1 l2 (i + 1) (l1[i] == l2[i]) := by
  obtain ⟨a, b, c⟩ := h.yes rfl
  refine ⟨h1, fun e => ⟨a, b, take_step h1 h2 c (by simpa using e)⟩, fun e h3 => ?_⟩
  have h4 := h3.2
  subst h4
  simp at e
theorem cmp_end {R : Prop} {l1 l2 : List Int} {i : Nat} {r : Bool} (h : CmpI R l1 l2 i r) (he : r = true → ¬ i < l1.length) : r = true ↔ R ∧ l1 = l2 := by
  constructor
  · intro hr
    obtain ⟨a, b, c⟩ := h.yes hr
    have : i = l1.length := by have := h.le; have := he hr; omega
    subst this
    rw [List.take_length, b, List.take_length] at c
    exact ⟨a, c⟩
  · intro h3
    cases r with
    | true => rfl
    | false => exact absurd h3 (h.no rfl)
theorem bool_of {a : Bool} {p : Prop} [Decidable p] (h : a = true ↔ p) : a = decide p := by rw [Bool.eq_iff_iff, h, decide_eq_true_iff]
theorem least_pos {n k : Nat} (h : 0 < k) : (leastI n k == (k : Int)) = true := by unfold leastI; rw [if_pos h]; exact beq_self_eq_true _
theorem least_zero {n k : Nat} (h : k = 0) : (leastI n k == IntKind.i64.wrap ((n : Int) - IntKind.i64.wrap ((IntKind.i64.wrap ((n : Int) - 1)).tdiv 3))) = true := by subst h; unfold leastI; rw [if_neg (Nat.lt_irrefl 0)]; exact beq_self_eq_true _
theorem blocks_app' {G1 G2 : Hp} {w : World} (h1 : Blocks G1 w) (h2 : Blocks G2 w) : Blocks (G1 ++ G2) w := fun p hp => by
  rcases List.mem_append.1 hp with h | h
  · exact h1 p h
  · exact h2 p h
theorem max_le' {n : Nat} (h : n ≤ 100000000000000000) : n ≤ maxLen := Nat.le_trans h (by decide)

theorem en49 : Vm.Enters Tryd.prog 49 := Vm.Enters.of fun _ _ => by kernel_rfl
theorem en50 : Vm.Enters Tryd.prog 50 := Vm.Enters.of fun _ _ => by kernel_rfl
theorem sl76 : TyS Tryd.prog 76 3 1 8 [.int .i64 0] := ⟨by kernel_rfl, by kernel_rfl, by kernel_rfl, ⟨(.int .i64 0), by kernel_rfl, by kernel_rfl⟩, rfl, by decide⟩
theorem sl78 : TyS Tryd.prog 78 31 12 96 [.int .u64 0, .int .u64 0, .int .u64 0, .int .u64 0, .int .u64 0, .int .u64 0, .int .u64 0, .int .u64 0, .int .u64 0, .int .u64 0, .int .u64 0, .int .u64 0] := ⟨by kernel_rfl, by kernel_rfl, by kernel_rfl, ⟨(.agg #[.int .u64 0, .int .u64 0, .int .u64 0, .int .u64 0, .int .u64 0, .int .u64 0, .int .u64 0, .int .u64 0, .int .u64 0, .int .u64 0, .int .u64 0, .int .u64 0]), by kernel_rfl, by kernel_rfl⟩, rfl, by decide⟩
theorem u4 : Tryd.prog.underlying 4 = some (.bool) := by kernel_rfl
set_option maxHeartbeats 8000000 in
set_option maxRecDepth 100000 in
theorem DealSetups_ok {G' : Hp} {v1 v2 : Value} {l1 l2 : List Int} {need old : Int} (hB1 : Ints G' v1 l1) (hB2 : Ints G' v2 l2) (hs1 : l1.length * 8 ≤ 140737488351232) (hs2 : l2.length * 8 ≤ 140737488351232) {w : World} (hG : Blocks (G' ++ GH T) w)  : Vm.Pure Tryd.prog 8 #[v1, v2, .int .i64 need, .int .i64 old] w (.bool true) := by
  obtain ⟨ad1, cap1, hvv1⟩ := hB1.shape
  obtain ⟨ad2, cap2, hvv2⟩ := hB2.shape
  have hno : l1.length ≤ 9223372036854775806 := by omega
  have hno2 : l2.length ≤ 9223372036854775806 := by omega
  refine pure_of_W (n := 119) (args := [v1, v2, .int .i64 need, .int .i64 old]) Tryd.func8 rfl Tryd.ntmps8 (Nat.le_of_ble_eq_true rfl) hG ?_
  refine sStart ?_
  refine sSeq ?_
  subst hvv1
  subst hvv2
  refine W.region ?_
  refine OpsW.det (det_assign rfl) rfl ?_
  refine sNext ?_
  refine W.keep (F' := [(0, _), (1, _), (2, _), (3, _)]) ⟨rfl, rfl, rfl, rfl, trivial⟩ ?_
  refine sSeq ?_
  refine sSeq ?_
  refine W.region ?_
  refine OpsW.det (det_call en49 rfl (fun w hb ho => head22_ok (fun p hp => ho.look (List.mem_append_right _ hp)))) rfl ?_
  refine OpsW.det (det_not rfl) rfl ?_
  refine sNext ?_
  refine W.keep (F' := [(14, _), (0, _), (1, _), (2, _), (3, _)]) ⟨rfl, rfl, rfl, rfl, rfl, trivial⟩ ?_
  refine W.cond_false rfl ?_
  refine sSkip ?_
  refine sSeq ?_
  refine W.region ?_
  refine OpsW.det (det_move rfl) rfl ?_
  refine OpsW.det (det_and rfl rfl) rfl ?_
  obtain ⟨k, hk, hke⟩ := and15 old
  rw [hke]
  refine OpsW.det (det_assign rfl) rfl ?_
  refine sNext ?_
  refine W.keep (F' := [(3, _), (0, _), (1, _), (2, _)]) ⟨rfl, rfl, rfl, rfl, trivial⟩ ?_
  refine sSeq ?_
  refine sCut (σ := Nat × Nat × Nat × Nat × Nat × Nat × Hp) (fun s => [(9, .pointer (some ⟨s.1, 0, none⟩)), (0, .slice ad1 l1.length cap1), (1, .slice ad2 l2.length cap2), (2, .int .i64 need), (3, .int .i64 ((k : Nat) : Int))]) (fun s => s.2.2.2.2.2.2 ++ [(s.1, blk [.slice (some ⟨s.2.1, 0, none⟩) l1.length s.2.2.1, .slice (some ⟨s.2.2.2.1, 0, none⟩) l2.length s.2.2.2.2.1, .int .i64 need, .slice (some ⟨s.2.2.2.2.2.1, 0, none⟩) k k] 80)]) (fun s => Ints s.2.2.2.2.2.2 (.slice (some ⟨s.2.1, 0, none⟩) l1.length s.2.2.1) l1 ∧ Ints s.2.2.2.2.2.2 (.slice (some ⟨s.2.2.2.1, 0, none⟩) l2.length s.2.2.2.2.1) l2) ?_ ?_
  · skip
    rcases Nat.eq_zero_or_pos l1.length with hz1 | hz1 <;> rcases Nat.eq_zero_or_pos l2.length with hz2 | hz2
    · skip
      refine W.draw mixed 11 [[], [], [0, 1], [], [], [0, 1, 2, 3, 4], [], [], [7], [0, 1, 2, 3, 4, 5, 6, 7, 8], [], [0, 1, 2, 3, 4, 5, 6, 7, 8, 9, 10]] (cl_lt (by decide)) ?_
      refine HeadR.start (cl_lt (by decide)) ?_
      refine HeadR.fresh rfl (fun β hβ => (fr_buildSlice rfl slice0i).new) ?_
      refine HeadR.det rfl (fun β hβ => (det_move rfl)) ?_
      refine HeadR.fresh rfl (fun β hβ => (new_append0m sl76 rfl rfl hz1)) ?_
      refine HeadR.fresh rfl (fun β hβ => (fr_buildSlice rfl slice0i).new) ?_
      refine HeadR.det rfl (fun β hβ => (det_move rfl)) ?_
      refine HeadR.fresh rfl (fun β hβ => (new_append0m sl76 rfl rfl hz2)) ?_
      refine HeadR.det rfl (fun β hβ => (det_move rfl)) ?_
      refine HeadR.det rfl (fun β hβ => (det_move rfl)) ?_
      refine HeadR.fresh rfl (fun β hβ => (fr_makeSlice sl78 rfl rfl (Nat.le_refl _) (by omega) (by omega)).new) ?_
      refine HeadR.dep [19, 22, 25] (fun l => match l with | [p, q, r] => .agg #[.slice (some ⟨p.1, 0, none⟩) l1.length 0, .slice (some ⟨q.1, 0, none⟩) l2.length 0, .int .i64 need, .slice (some ⟨r.1, 0, none⟩) k k] | _ => undef) rfl (fun β hβ => (det_build rfl bldS4)) ?_
      refine HeadR.fresh rfl (fun β hβ => (fr_alloc z80).new) ?_
      refine HeadR.done ⟨by kernel_rfl, fun β hβ => ?_⟩
      refine OpsW.norm (F' := [(17, .slice (some ⟨(β 17).1, 0, none⟩) 0 0), (18, _), (19, .slice (some ⟨(β 19).1, 0, none⟩) l1.length 0), (20, .slice (some ⟨(β 20).1, 0, none⟩) 0 0), (21, _), (22, .slice (some ⟨(β 22).1, 0, none⟩) l2.length 0), (23, _), (24, _), (25, .slice (some ⟨(β 25).1, 0, none⟩) k k), (26, .agg #[.slice (some ⟨(β 19).1, 0, none⟩) l1.length 0, .slice (some ⟨(β 22).1, 0, none⟩) l2.length 0, .int .i64 need, .slice (some ⟨(β 25).1, 0, none⟩) k k]), (9, .pointer (some ⟨(β 9).1, 0, none⟩)), (3, _), (0, _), (1, _), (2, _)]) (H' := [(_, _), (_, _), (_, _), (_, _)]) rfl rfl ?_
      generalize (β 17).1 = b17
      generalize (β 19).1 = b19
      generalize (β 20).1 = b20
      generalize (β 22).1 = b22
      generalize (β 25).1 = b25
      generalize (β 9).1 = b9
      refine OpsW.store sz80 rfl rfl rfl rfl rfl (Upd.there (Upd.there (Upd.there (Upd.here)))) rfl ?_
      refine sLast ?_
      refine cutOk (b9, b19, 0, b22, 0, b25, []) ⟨ints_zero hz1, ints_zero hz2⟩ ⟨rfl, rfl, rfl, rfl, rfl, trivial⟩ ?_
      repeat (first | exact List.Sublist.refl _ | exact List.nil_sublist _ | refine List.Sublist.cons_cons _ ?_ | refine List.Sublist.cons _ ?_)
    · skip
      obtain ⟨bk2, o2, cap2', cs2, e2, fr2, hv2, hm2, hcell2⟩ := hB2.all hz2
      simp only [Value.slice.injEq] at hv2
      obtain ⟨rfl, _, rfl⟩ := hv2
      refine W.draw mixed 11 [[], [], [0, 1], [], [], [0, 1, 2, 3, 4], [], [], [7], [0, 1, 2, 3, 4, 5, 6, 7, 8], [], [0, 1, 2, 3, 4, 5, 6, 7, 8, 9, 10]] (cl_lt (by decide)) ?_
      refine HeadR.start (cl_lt (by decide)) ?_
      refine HeadR.fresh rfl (fun β hβ => (fr_buildSlice rfl slice0i).new) ?_
      refine HeadR.det rfl (fun β hβ => (det_move rfl)) ?_
      refine HeadR.fresh rfl (fun β hβ => (new_append0m sl76 rfl rfl hz1)) ?_
      refine HeadR.fresh rfl (fun β hβ => (fr_buildSlice rfl slice0i).new) ?_
      refine HeadR.det rfl (fun β hβ => (det_move rfl)) ?_
      refine HeadR.fresh rfl (fun β hβ => (new_append sl76 (news := icells l2) rfl rfl (.inr (List.mem_append_left _ hm2)) (by rw [icells_len, Nat.mul_one]) (fun j u hj => by have h := hj; unfold icells at h; rw [List.getElem?_map, Option.map_eq_some_iff] at h; obtain ⟨z, hz, rfl⟩ := h; obtain ⟨hj2, rfl⟩ := List.getElem?_eq_some_iff.1 hz; exact hcell2 j hj2) hz2 (max_le' (by omega)) (by omega))) ?_
      refine HeadR.det rfl (fun β hβ => (det_move rfl)) ?_
      refine HeadR.det rfl (fun β hβ => (det_move rfl)) ?_
      refine HeadR.fresh rfl (fun β hβ => (fr_makeSlice sl78 rfl rfl (Nat.le_refl _) (by omega) (by omega)).new) ?_
      refine HeadR.dep [19, 22, 25] (fun l => match l with | [p, q, r] => .agg #[.slice (some ⟨p.1, 0, none⟩) l1.length 0, .slice (some ⟨q.1, 0, none⟩) l2.length q.2.1, .int .i64 need, .slice (some ⟨r.1, 0, none⟩) k k] | _ => undef) rfl (fun β hβ => (det_build rfl bldS4)) ?_
      refine HeadR.fresh rfl (fun β hβ => (fr_alloc z80).new) ?_
      refine HeadR.done ⟨by kernel_rfl, fun β hβ => ?_⟩
      refine OpsW.norm (F' := [(17, .slice (some ⟨(β 17).1, 0, none⟩) 0 0), (18, _), (19, .slice (some ⟨(β 19).1, 0, none⟩) l1.length 0), (20, .slice (some ⟨(β 20).1, 0, none⟩) 0 0), (21, _), (22, .slice (some ⟨(β 22).1, 0, none⟩) l2.length (β 22).2.1), (23, _), (24, _), (25, .slice (some ⟨(β 25).1, 0, none⟩) k k), (26, .agg #[.slice (some ⟨(β 19).1, 0, none⟩) l1.length 0, .slice (some ⟨(β 22).1, 0, none⟩) l2.length (β 22).2.1, .int .i64 need, .slice (some ⟨(β 25).1, 0, none⟩) k k]), (9, .pointer (some ⟨(β 9).1, 0, none⟩)), (3, _), (0, _), (1, _), (2, _)]) (H' := [(_, _), (_, _), (_, _), (_, _), (_, _)]) rfl rfl ?_
      generalize (β 17).1 = b17
      generalize (β 19).1 = b19
      generalize (β 20).1 = b20
      generalize (β 22).1 = b22
      generalize (β 22).2.2 = sp22
      generalize (β 22).2.1 = cap22
      generalize (β 25).1 = b25
      generalize (β 9).1 = b9
      refine OpsW.store sz80 rfl rfl rfl rfl rfl (Upd.there (Upd.there (Upd.there (Upd.there (Upd.here))))) rfl ?_
      refine sLast ?_
      refine cutOk (b9, b19, 0, b22, cap22, b25, [(b22, blk (icells l2 ++ sp22) 3)]) ⟨ints_zero hz1, (ints_own rfl).mono (fun p hp => by rw [List.mem_singleton.1 hp]; repeat (first | exact List.Mem.head _ | apply List.Mem.tail))⟩ ⟨rfl, rfl, rfl, rfl, rfl, trivial⟩ ?_
      repeat (first | exact List.Sublist.refl _ | exact List.nil_sublist _ | refine List.Sublist.cons_cons _ ?_ | refine List.Sublist.cons _ ?_)
    · skip
      obtain ⟨bk1, o1, cap1', cs1, e1, fr1, hv1, hm1, hcell1⟩ := hB1.all hz1
      simp only [Value.slice.injEq] at hv1
      obtain ⟨rfl, _, rfl⟩ := hv1
      refine W.draw mixed 11 [[], [], [0, 1], [], [], [0, 1, 2, 3, 4], [], [], [7], [0, 1, 2, 3, 4, 5, 6, 7, 8], [], [0, 1, 2, 3, 4, 5, 6, 7, 8, 9, 10]] (cl_lt (by decide)) ?_
      refine HeadR.start (cl_lt (by decide)) ?_
      refine HeadR.fresh rfl (fun β hβ => (fr_buildSlice rfl slice0i).new) ?_
      refine HeadR.det rfl (fun β hβ => (det_move rfl)) ?_
      refine HeadR.fresh rfl (fun β hβ => (new_append sl76 (news := icells l1) rfl rfl (.inr (List.mem_append_left _ hm1)) (by rw [icells_len, Nat.mul_one]) (fun j u hj => by have h := hj; unfold icells at h; rw [List.getElem?_map, Option.map_eq_some_iff] at h; obtain ⟨z, hz, rfl⟩ := h; obtain ⟨hj2, rfl⟩ := List.getElem?_eq_some_iff.1 hz; exact hcell1 j hj2) hz1 (max_le' (by omega)) (by omega))) ?_
      refine HeadR.fresh rfl (fun β hβ => (fr_buildSlice rfl slice0i).new) ?_
      refine HeadR.det rfl (fun β hβ => (det_move rfl)) ?_
      refine HeadR.fresh rfl (fun β hβ => (new_append0m sl76 rfl rfl hz2)) ?_
      refine HeadR.det rfl (fun β hβ => (det_move rfl)) ?_
      refine HeadR.det rfl (fun β hβ => (det_move rfl)) ?_
      refine HeadR.fresh rfl (fun β hβ => (fr_makeSlice sl78 rfl rfl (Nat.le_refl _) (by omega) (by omega)).new) ?_
      refine HeadR.dep [19, 22, 25] (fun l => match l with | [p, q, r] => .agg #[.slice (some ⟨p.1, 0, none⟩) l1.length p.2.1, .slice (some ⟨q.1, 0, none⟩) l2.length 0, .int .i64 need, .slice (some ⟨r.1, 0, none⟩) k k] | _ => undef) rfl (fun β hβ => (det_build rfl bldS4)) ?_
      refine HeadR.fresh rfl (fun β hβ => (fr_alloc z80).new) ?_
      refine HeadR.done ⟨by kernel_rfl, fun β hβ => ?_⟩
      refine OpsW.norm (F' := [(17, .slice (some ⟨(β 17).1, 0, none⟩) 0 0), (18, _), (19, .slice (some ⟨(β 19).1, 0, none⟩) l1.length (β 19).2.1), (20, .slice (some ⟨(β 20).1, 0, none⟩) 0 0), (21, _), (22, .slice (some ⟨(β 22).1, 0, none⟩) l2.length 0), (23, _), (24, _), (25, .slice (some ⟨(β 25).1, 0, none⟩) k k), (26, .agg #[.slice (some ⟨(β 19).1, 0, none⟩) l1.length (β 19).2.1, .slice (some ⟨(β 22).1, 0, none⟩) l2.length 0, .int .i64 need, .slice (some ⟨(β 25).1, 0, none⟩) k k]), (9, .pointer (some ⟨(β 9).1, 0, none⟩)), (3, _), (0, _), (1, _), (2, _)]) (H' := [(_, _), (_, _), (_, _), (_, _), (_, _)]) rfl rfl ?_
      generalize (β 17).1 = b17
      generalize (β 19).1 = b19
      generalize (β 19).2.2 = sp19
      generalize (β 19).2.1 = cap19
      generalize (β 20).1 = b20
      generalize (β 22).1 = b22
      generalize (β 25).1 = b25
      generalize (β 9).1 = b9
      refine OpsW.store sz80 rfl rfl rfl rfl rfl (Upd.there (Upd.there (Upd.there (Upd.there (Upd.here))))) rfl ?_
      refine sLast ?_
      refine cutOk (b9, b19, cap19, b22, 0, b25, [(b19, blk (icells l1 ++ sp19) 3)]) ⟨(ints_own rfl).mono (fun p hp => by rw [List.mem_singleton.1 hp]; exact List.Mem.head _), ints_zero hz2⟩ ⟨rfl, rfl, rfl, rfl, rfl, trivial⟩ ?_
      repeat (first | exact List.Sublist.refl _ | exact List.nil_sublist _ | refine List.Sublist.cons_cons _ ?_ | refine List.Sublist.cons _ ?_)
    · skip
      obtain ⟨bk1, o1, cap1', cs1, e1, fr1, hv1, hm1, hcell1⟩ := hB1.all hz1
      simp only [Value.slice.injEq] at hv1
      obtain ⟨rfl, _, rfl⟩ := hv1
      obtain ⟨bk2, o2, cap2', cs2, e2, fr2, hv2, hm2, hcell2⟩ := hB2.all hz2
      simp only [Value.slice.injEq] at hv2
      obtain ⟨rfl, _, rfl⟩ := hv2
      refine W.draw mixed 11 [[], [], [0, 1], [], [], [0, 1, 2, 3, 4], [], [], [7], [0, 1, 2, 3, 4, 5, 6, 7, 8], [], [0, 1, 2, 3, 4, 5, 6, 7, 8, 9, 10]] (cl_lt (by decide)) ?_
      refine HeadR.start (cl_lt (by decide)) ?_
      refine HeadR.fresh rfl (fun β hβ => (fr_buildSlice rfl slice0i).new) ?_
      refine HeadR.det rfl (fun β hβ => (det_move rfl)) ?_
      refine HeadR.fresh rfl (fun β hβ => (new_append sl76 (news := icells l1) rfl rfl (.inr (List.mem_append_left _ hm1)) (by rw [icells_len, Nat.mul_one]) (fun j u hj => by have h := hj; unfold icells at h; rw [List.getElem?_map, Option.map_eq_some_iff] at h; obtain ⟨z, hz, rfl⟩ := h; obtain ⟨hj2, rfl⟩ := List.getElem?_eq_some_iff.1 hz; exact hcell1 j hj2) hz1 (max_le' (by omega)) (by omega))) ?_
      refine HeadR.fresh rfl (fun β hβ => (fr_buildSlice rfl slice0i).new) ?_
      refine HeadR.det rfl (fun β hβ => (det_move rfl)) ?_
      refine HeadR.fresh rfl (fun β hβ => (new_append sl76 (news := icells l2) rfl rfl (.inr (List.mem_append_left _ hm2)) (by rw [icells_len, Nat.mul_one]) (fun j u hj => by have h := hj; unfold icells at h; rw [List.getElem?_map, Option.map_eq_some_iff] at h; obtain ⟨z, hz, rfl⟩ := h; obtain ⟨hj2, rfl⟩ := List.getElem?_eq_some_iff.1 hz; exact hcell2 j hj2) hz2 (max_le' (by omega)) (by omega))) ?_
      refine HeadR.det rfl (fun β hβ => (det_move rfl)) ?_
      refine HeadR.det rfl (fun β hβ => (det_move rfl)) ?_
      refine HeadR.fresh rfl (fun β hβ => (fr_makeSlice sl78 rfl rfl (Nat.le_refl _) (by omega) (by omega)).new) ?_
      refine HeadR.dep [19, 22, 25] (fun l => match l with | [p, q, r] => .agg #[.slice (some ⟨p.1, 0, none⟩) l1.length p.2.1, .slice (some ⟨q.1, 0, none⟩) l2.length q.2.1, .int .i64 need, .slice (some ⟨r.1, 0, none⟩) k k] | _ => undef) rfl (fun β hβ => (det_build rfl bldS4)) ?_
      refine HeadR.fresh rfl (fun β hβ => (fr_alloc z80).new) ?_
      refine HeadR.done ⟨by kernel_rfl, fun β hβ => ?_⟩
      refine OpsW.norm (F' := [(17, .slice (some ⟨(β 17).1, 0, none⟩) 0 0), (18, _), (19, .slice (some ⟨(β 19).1, 0, none⟩) l1.length (β 19).2.1), (20, .slice (some ⟨(β 20).1, 0, none⟩) 0 0), (21, _), (22, .slice (some ⟨(β 22).1, 0, none⟩) l2.length (β 22).2.1), (23, _), (24, _), (25, .slice (some ⟨(β 25).1, 0, none⟩) k k), (26, .agg #[.slice (some ⟨(β 19).1, 0, none⟩) l1.length (β 19).2.1, .slice (some ⟨(β 22).1, 0, none⟩) l2.length (β 22).2.1, .int .i64 need, .slice (some ⟨(β 25).1, 0, none⟩) k k]), (9, .pointer (some ⟨(β 9).1, 0, none⟩)), (3, _), (0, _), (1, _), (2, _)]) (H' := [(_, _), (_, _), (_, _), (_, _), (_, _), (_, _)]) rfl rfl ?_
      generalize (β 17).1 = b17
      generalize (β 19).1 = b19
      generalize (β 19).2.2 = sp19
      generalize (β 19).2.1 = cap19
      generalize (β 20).1 = b20
      generalize (β 22).1 = b22
      generalize (β 22).2.2 = sp22
      generalize (β 22).2.1 = cap22
      generalize (β 25).1 = b25
      generalize (β 9).1 = b9
      refine OpsW.store sz80 rfl rfl rfl rfl rfl (Upd.there (Upd.there (Upd.there (Upd.there (Upd.there (Upd.here)))))) rfl ?_
      refine sLast ?_
      refine cutOk (b9, b19, cap19, b22, cap22, b25, [(b19, blk (icells l1 ++ sp19) 3), (b22, blk (icells l2 ++ sp22) 3)]) ⟨(ints_own rfl).mono (fun p hp => by rw [List.mem_singleton.1 hp]; exact List.Mem.head _), (ints_own rfl).mono (fun p hp => by rw [List.mem_singleton.1 hp]; repeat (first | exact List.Mem.head _ | apply List.Mem.tail))⟩ ⟨rfl, rfl, rfl, rfl, rfl, trivial⟩ ?_
      repeat (first | exact List.Sublist.refl _ | exact List.nil_sublist _ | refine List.Sublist.cons_cons _ ?_ | refine List.Sublist.cons _ ?_)
  · skip
    rintro ⟨bs, x1, y1, x2, y2, x3, HX⟩ ⟨hX1, hX2⟩
    change Ints HX (.slice (some ⟨x1, 0, none⟩) l1.length y1) l1 at hX1
    change Ints HX (.slice (some ⟨x2, 0, none⟩) l2.length y2) l2 at hX2
    refine W.norm (F' := [(9, .pointer (some ⟨bs, 0, none⟩)), (0, .slice ad1 l1.length cap1), (1, .slice ad2 l2.length cap2), (2, .int .i64 need), (3, .int .i64 ((k : Nat) : Int))]) (H' := HX ++ [(bs, blk [.slice (some ⟨x1, 0, none⟩) l1.length y1, .slice (some ⟨x2, 0, none⟩) l2.length y2, .int .i64 need, .slice (some ⟨x3, 0, none⟩) k k] 80)]) rfl rfl ?_
    refine W.perm (H' := (bs, blk [.slice (some ⟨x1, 0, none⟩) l1.length y1, .slice (some ⟨x2, 0, none⟩) l2.length y2, .int .i64 need, .slice (some ⟨x3, 0, none⟩) k k] 80) :: HX) (List.perm_append_comm (l₁ := [_])) ?_
    refine sSeq ?_
    refine sCut (σ := Bool) (fun r => [(10, .bool r), (9, .pointer (some ⟨bs, 0, none⟩)), (0, .slice ad1 l1.length cap1), (1, .slice ad2 l2.length cap2), (3, .int .i64 ((k : Nat) : Int))]) (fun r => ((bs, blk [.slice (some ⟨x1, 0, none⟩) l1.length y1, .slice (some ⟨x2, 0, none⟩) l2.length y2, .int .i64 need, .slice (some ⟨x3, 0, none⟩) k k] 80) :: HX)) (fun r => r = decide (rightP l1 l2 need k)) ?_ ?_
    · skip
      refine W.region ?_
      refine OpsW.det (det_move rfl) rfl ?_
      refine OpsW.test (det_call en50 rfl (fun w hb ho => rising_ok (G' := G') hB1 (by omega) ho.blocks)) rfl (fun hc28 => ?_) (fun hc28 => ?_)
      · skip
        refine OpsW.det (det_move rfl) rfl ?_
        refine OpsW.guard_yes rfl rfl ?_
        refine OpsW.det (det_move rfl) rfl ?_
        refine OpsW.guard_yes rfl rfl ?_
        refine OpsW.test (det_call en50 rfl (fun w hb ho => rising_ok (G' := G') hB2 (by omega) ho.blocks)) rfl (fun hc31 => ?_) (fun hc31 => ?_)
        · skip
          refine OpsW.det (det_pick rfl rfl) rfl ?_
          refine OpsW.det (det_move rfl) rfl ?_
          refine OpsW.guard_yes rfl rfl ?_
          refine OpsW.det (det_move rfl) rfl ?_
          refine OpsW.guard_yes rfl rfl ?_
          refine OpsW.test (det_geq rfl rfl) rfl (fun hc35 => ?_) (fun hc35 => ?_)
          · skip
            refine OpsW.det (det_pick rfl rfl) rfl ?_
            refine OpsW.det (det_move rfl) rfl ?_
            refine OpsW.guard_yes rfl rfl ?_
            refine OpsW.det (det_move rfl) rfl ?_
            refine OpsW.guard_yes rfl rfl ?_
            refine OpsW.det (det_move rfl) rfl ?_
            refine OpsW.guard_yes rfl rfl ?_
            refine OpsW.det (det_len u76 rfl) rfl ?_
            refine OpsW.guard_yes rfl rfl ?_
            refine OpsW.test (det_leq rfl rfl) rfl (fun hc41 => ?_) (fun hc41 => ?_)
            · skip
              refine OpsW.det (det_pick rfl rfl) rfl ?_
              refine OpsW.det (det_move rfl) rfl ?_
              refine OpsW.guard_yes rfl rfl ?_
              refine OpsW.det (det_move rfl) rfl ?_
              refine OpsW.guard_yes rfl rfl ?_
              refine OpsW.det (det_move rfl) rfl ?_
              refine OpsW.guard_yes rfl rfl ?_
              refine OpsW.det (det_len u76 rfl) rfl ?_
              refine OpsW.guard_yes rfl rfl ?_
              refine OpsW.test (det_leq rfl rfl) rfl (fun hc47 => ?_) (fun hc47 => ?_)
              · skip
                refine OpsW.det (det_pick rfl rfl) rfl ?_
                refine OpsW.det (det_assign rfl) rfl ?_
                refine sLast ?_
                exact cutOk true (decide_eq_true ⟨hc28, hc31, of_decide_eq_true hc35, of_decide_eq_true hc41, by have h3 := of_decide_eq_true hc47; omega⟩).symm ⟨rfl, rfl, rfl, rfl, rfl, trivial⟩ (List.Sublist.refl _)
              · skip
                refine OpsW.det (det_pick rfl rfl) rfl ?_
                refine OpsW.det (det_assign rfl) rfl ?_
                refine sLast ?_
                exact cutOk false (decide_eq_false (fun h => by have h2 := h.2.2.2.2; have h3 := of_decide_eq_false hc47; omega)).symm ⟨rfl, rfl, rfl, rfl, rfl, trivial⟩ (List.Sublist.refl _)
            · skip
              refine OpsW.det (det_pick rfl rfl) rfl ?_
              refine OpsW.det (det_move rfl) rfl ?_
              refine OpsW.guard_no rfl rfl rfl ?_
              refine OpsW.guard_no rfl rfl rfl ?_
              refine OpsW.guard_no rfl rfl rfl ?_
              refine OpsW.guard_no rfl rfl rfl ?_
              refine OpsW.det (det_pick rfl rfl) rfl ?_
              refine OpsW.det (det_assign rfl) rfl ?_
              refine sLast ?_
              exact cutOk false (decide_eq_false (fun h => by have h2 := h.2.2.2.1; have h3 := of_decide_eq_false hc41; omega)).symm ⟨rfl, rfl, rfl, rfl, rfl, trivial⟩ (List.Sublist.refl _)
          · skip
            refine OpsW.det (det_pick rfl rfl) rfl ?_
            refine OpsW.det (det_move rfl) rfl ?_
            refine OpsW.guard_no rfl rfl rfl ?_
            refine OpsW.guard_no rfl rfl rfl ?_
            refine OpsW.guard_no rfl rfl rfl ?_
            refine OpsW.guard_no rfl rfl rfl ?_
            refine OpsW.det (det_pick rfl rfl) rfl ?_
            refine OpsW.det (det_move rfl) rfl ?_
            refine OpsW.guard_no rfl rfl rfl ?_
            refine OpsW.guard_no rfl rfl rfl ?_
            refine OpsW.guard_no rfl rfl rfl ?_
            refine OpsW.guard_no rfl rfl rfl ?_
            refine OpsW.det (det_pick rfl rfl) rfl ?_
            refine OpsW.det (det_assign rfl) rfl ?_
            refine sLast ?_
            exact cutOk false (decide_eq_false (fun h => by have h2 := h.2.2.1; have h3 := of_decide_eq_false hc35; omega)).symm ⟨rfl, rfl, rfl, rfl, rfl, trivial⟩ (List.Sublist.refl _)
        · skip
          refine OpsW.det (det_pick rfl rfl) rfl ?_
          refine OpsW.det (det_move rfl) rfl ?_
          refine OpsW.guard_no rfl rfl rfl ?_
          refine OpsW.guard_no rfl rfl rfl ?_
          refine OpsW.det (det_pick rfl rfl) rfl ?_
          refine OpsW.det (det_move rfl) rfl ?_
          refine OpsW.guard_no rfl rfl rfl ?_
          refine OpsW.guard_no rfl rfl rfl ?_
          refine OpsW.guard_no rfl rfl rfl ?_
          refine OpsW.guard_no rfl rfl rfl ?_
          refine OpsW.det (det_pick rfl rfl) rfl ?_
          refine OpsW.det (det_move rfl) rfl ?_
          refine OpsW.guard_no rfl rfl rfl ?_
          refine OpsW.guard_no rfl rfl rfl ?_
          refine OpsW.guard_no rfl rfl rfl ?_
          refine OpsW.guard_no rfl rfl rfl ?_
          refine OpsW.det (det_pick rfl rfl) rfl ?_
          refine OpsW.det (det_assign rfl) rfl ?_
          refine sLast ?_
          exact cutOk false (decide_eq_false (fun h => absurd h.2.1 (by rw [hc31]; decide))).symm ⟨rfl, rfl, rfl, rfl, rfl, trivial⟩ (List.Sublist.refl _)
      · skip
        refine OpsW.det (det_move rfl) rfl ?_
        refine OpsW.guard_no rfl rfl rfl ?_
        refine OpsW.guard_no rfl rfl rfl ?_
        refine OpsW.det (det_pick rfl rfl) rfl ?_
        refine OpsW.det (det_move rfl) rfl ?_
        refine OpsW.guard_no rfl rfl rfl ?_
        refine OpsW.guard_no rfl rfl rfl ?_
        refine OpsW.det (det_pick rfl rfl) rfl ?_
        refine OpsW.det (det_move rfl) rfl ?_
        refine OpsW.guard_no rfl rfl rfl ?_
        refine OpsW.guard_no rfl rfl rfl ?_
        refine OpsW.guard_no rfl rfl rfl ?_
        refine OpsW.guard_no rfl rfl rfl ?_
        refine OpsW.det (det_pick rfl rfl) rfl ?_
        refine OpsW.det (det_move rfl) rfl ?_
        refine OpsW.guard_no rfl rfl rfl ?_
        refine OpsW.guard_no rfl rfl rfl ?_
        refine OpsW.guard_no rfl rfl rfl ?_
        refine OpsW.guard_no rfl rfl rfl ?_
        refine OpsW.det (det_pick rfl rfl) rfl ?_
        refine OpsW.det (det_assign rfl) rfl ?_
        refine sLast ?_
        exact cutOk false (decide_eq_false (fun h => absurd h.1 (by rw [hc28]; decide))).symm ⟨rfl, rfl, rfl, rfl, rfl, trivial⟩ (List.Sublist.refl _)
    · skip
      intro r1 hr1
      refine sSeq ?_
      refine sSeq ?_
      refine W.region ?_
      refine OpsW.det (det_move rfl) rfl ?_
      refine OpsW.det (det_eql rfl rfl) rfl ?_
      refine sNext ?_
      refine W.keep (F' := [(50, _), (10, _), (9, _), (0, _), (1, _), (3, _)]) ⟨rfl, rfl, rfl, rfl, rfl, rfl, trivial⟩ ?_
      refine sCut (σ := Bool) (fun r => [(10, .bool r), (9, .pointer (some ⟨bs, 0, none⟩)), (0, .slice ad1 l1.length cap1), (1, .slice ad2 l2.length cap2), (3, .int .i64 ((k : Nat) : Int))]) (fun r => ((bs, blk [.slice (some ⟨x1, 0, none⟩) l1.length y1, .slice (some ⟨x2, 0, none⟩) l2.length y2, .int .i64 need, .slice (some ⟨x3, 0, none⟩) k k] 80) :: HX)) (fun r => r = decide (chkP l1 l2 need k)) ?_ ?_
      · skip
        refine W.cond rfl (fun hc50 => ?_) (fun hc50 => ?_)
        · skip
          have hk0 : k = 0 := by have h := hc50; simp at h; omega
          refine sSeq ?_
          rcases hr1v : r1 with _ | _
          · skip
            refine W.region ?_
            refine OpsW.det (det_move rfl) rfl ?_
            refine OpsW.det (det_move rfl) rfl ?_
            refine OpsW.guard_no rfl rfl rfl ?_
            refine OpsW.guard_no rfl rfl rfl ?_
            refine OpsW.guard_no rfl rfl rfl ?_
            refine OpsW.guard_no rfl rfl rfl ?_
            refine OpsW.guard_no rfl rfl rfl ?_
            refine OpsW.det (det_pick rfl rfl) rfl ?_
            refine OpsW.det (det_assign rfl) rfl ?_
            refine sNext ?_
            refine W.keep (F' := [(10, _), (9, _), (0, _), (1, _), (3, _)]) ⟨rfl, rfl, rfl, rfl, rfl, trivial⟩ ?_
            refine sSeq ?_
            refine W.region ?_
            refine OpsW.det (det_assign rfl) rfl ?_
            refine sNext ?_
            refine sBlock ?_
            refine sLoop (σ := Nat × Bool) (fun s => [(11, .int .i64 (s.1 : Nat)), (10, .bool s.2), (9, .pointer (some ⟨bs, 0, none⟩)), (0, .slice ad1 l1.length cap1), (1, .slice ad2 l2.length cap2), (3, .int .i64 ((k : Nat) : Int))]) (fun s => ((bs, blk [.slice (some ⟨x1, 0, none⟩) l1.length y1, .slice (some ⟨x2, 0, none⟩) l2.length y2, .int .i64 need, .slice (some ⟨x3, 0, none⟩) k k] 80) :: HX)) (fun s => CmpI (rightP l1 l2 need k) l1 l2 s.1 s.2) (fun s => l1.length - s.1) (0, false) (cmp_start0 hr1 hr1v) ⟨rfl, rfl, rfl, rfl, rfl, rfl, trivial⟩ (List.Sublist.refl _) ?_
            rintro ⟨i, r⟩ hI
            change CmpI (rightP l1 l2 need k) l1 l2 i r at hI
            refine W.norm (F' := [(11, .int .i64 (i : Nat)), (10, .bool r), (9, .pointer (some ⟨bs, 0, none⟩)), (0, .slice ad1 l1.length cap1), (1, .slice ad2 l2.length cap2), (3, .int .i64 ((k : Nat) : Int))]) (H' := ((bs, blk [.slice (some ⟨x1, 0, none⟩) l1.length y1, .slice (some ⟨x2, 0, none⟩) l2.length y2, .int .i64 need, .slice (some ⟨x3, 0, none⟩) k k] 80) :: HX)) rfl rfl ?_
            refine sSeq ?_
            refine sSeq ?_
            rcases r with _ | _
            · skip
              refine W.region ?_
              refine OpsW.det (det_move rfl) rfl ?_
              refine OpsW.det (det_move rfl) rfl ?_
              refine OpsW.guard_no rfl rfl rfl ?_
              refine OpsW.guard_no rfl rfl rfl ?_
              refine OpsW.guard_no rfl rfl rfl ?_
              refine OpsW.guard_no rfl rfl rfl ?_
              refine OpsW.det (det_pick rfl rfl) rfl ?_
              refine sNext ?_
              refine W.keep (F' := [(65, _), (11, _), (10, _), (9, _), (0, _), (1, _), (3, _)]) ⟨rfl, rfl, rfl, rfl, rfl, rfl, rfl, trivial⟩ ?_
              refine W.cond_false rfl ?_
              refine sExit ?_
              refine xLoop ?_
              refine xHere0 ?_
              exact cutOk false (bool_of ((cmp_end hI (fun h => by cases h)).trans (by rw [chk_of]; exact ⟨fun h => ⟨h.1, fun _ => h.2⟩, fun h => ⟨h.1, h.2 hk0⟩⟩))) ⟨rfl, rfl, rfl, rfl, rfl, trivial⟩ (List.Sublist.refl _)
            · skip
              refine W.region ?_
              refine OpsW.det (det_move rfl) rfl ?_
              refine OpsW.det (det_move rfl) rfl ?_
              refine OpsW.guard_yes rfl rfl ?_
              refine OpsW.det (det_move rfl) rfl ?_
              refine OpsW.guard_yes rfl rfl ?_
              refine OpsW.det (det_move rfl) rfl ?_
              refine OpsW.guard_yes rfl rfl ?_
              refine OpsW.det (det_len u76 rfl) rfl ?_
              refine OpsW.guard_yes rfl rfl ?_
              refine OpsW.det (det_lss rfl rfl) rfl ?_
              refine OpsW.det (det_pick rfl rfl) rfl ?_
              refine sNext ?_
              refine W.keep (F' := [(65, _), (11, _), (10, _), (9, _), (0, _), (1, _), (3, _)]) ⟨rfl, rfl, rfl, rfl, rfl, rfl, rfl, trivial⟩ ?_
              refine W.cond rfl (fun hc65 => ?_) (fun hc65 => ?_)
              · skip
                have hlt1 : i < l1.length := by have h := hc65; simp only [decide_eq_true_eq] at h; omega
                have hll := (hI.yes rfl).2.1
                have hlt2 : i < l2.length := by omega
                obtain ⟨bk1, o1, cap1', cs1, e1, fr1, hv1, hm1, hcell1⟩ := hB1.all (Nat.lt_of_le_of_lt (Nat.zero_le _) hlt1)
                simp only [Value.slice.injEq] at hv1
                obtain ⟨rfl, _, rfl⟩ := hv1
                obtain ⟨bk2, o2, cap2', cs2, e2, fr2, hv2, hm2, hcell2⟩ := hB2.all (Nat.lt_of_le_of_lt (Nat.zero_le _) hlt2)
                simp only [Value.slice.injEq] at hv2
                obtain ⟨rfl, _, rfl⟩ := hv2
                refine sSkip ?_
                refine sSeq ?_
                refine sBlock ?_
                refine W.keep (F' := [(65, _), (11, _), (9, _), (0, _), (1, _), (3, _)]) ⟨rfl, rfl, rfl, rfl, rfl, rfl, trivial⟩ ?_
                refine W.draw mixed 10 [[], [], [0, 1], [0, 1, 2], [], [], [4, 5], [4, 5, 6], [0, 1, 2, 3, 4, 5, 6, 7], [0, 1, 2, 3, 4, 5, 6, 7, 8]] (cl_lt (by decide)) ?_
                refine HeadR.start (cl_lt (by decide)) ?_
                refine HeadR.det rfl (fun β hβ => (det_move rfl)) ?_
                refine HeadR.det rfl (fun β hβ => (det_move rfl)) ?_
                refine HeadR.det rfl (fun β hβ => (det_indexAddr_sl u76 sz3 rfl rfl ⟨by omega, by omega⟩)) ?_
                refine HeadR.det rfl (fun β hβ => (det_loadC_ro tc3 rfl (List.mem_append_left _ hm1) (cell_i (hcell1 i hlt1)))) ?_
                refine HeadR.det rfl (fun β hβ => (det_move rfl)) ?_
                refine HeadR.det rfl (fun β hβ => (det_move rfl)) ?_
                refine HeadR.det rfl (fun β hβ => (det_indexAddr_sl u76 sz3 rfl rfl ⟨by omega, by omega⟩)) ?_
                refine HeadR.det rfl (fun β hβ => (det_loadC_ro tc3 rfl (List.mem_append_left _ hm2) (cell_i (hcell2 i hlt2)))) ?_
                refine HeadR.det rfl (fun β hβ => ((det_eql (a := l1[i]) (b := l2[i]) rfl rfl))) ?_
                refine HeadR.det rfl (fun β hβ => (det_assign rfl)) ?_
                refine HeadR.done ⟨by kernel_rfl, fun β hβ => ?_⟩
                refine OpsW.norm (F' := [(68, _), (69, _), (70, _), (71, _), (72, _), (73, _), (74, _), (75, _), (76, _), (10, _), (65, _), (11, _), (9, _), (0, _), (1, _), (3, _)]) (H' := ((_, _) :: HX)) rfl rfl ?_
                refine sLast ?_
                refine bNext ?_
                refine W.keep (F' := [(10, _), (11, _), (9, _), (0, _), (1, _), (3, _)]) ⟨rfl, rfl, rfl, rfl, rfl, rfl, trivial⟩ ?_
                refine W.region ?_
                refine OpsW.det (det_move rfl) rfl ?_
                refine OpsW.det (det_addN (b := 1) rfl rfl (by omega)) rfl ?_
                refine OpsW.det (det_assign rfl) rfl ?_
                refine sLast ?_
                exact rEnd (i + 1, l1[i] == l2[i]) (cmp_step hI hlt1 hlt2) ⟨rfl, rfl, rfl, rfl, rfl, rfl, trivial⟩ (List.Sublist.refl _) (step_lt hlt1)
              · skip
                have hge : ¬ i < l1.length := by have h := hc65; simp only [decide_eq_false_iff_not] at h; omega
                refine sExit ?_
                refine xLoop ?_
                refine xHere0 ?_
                exact cutOk true (bool_of ((cmp_end hI (fun _ => hge)).trans (by rw [chk_of]; exact ⟨fun h => ⟨h.1, fun _ => h.2⟩, fun h => ⟨h.1, h.2 hk0⟩⟩))) ⟨rfl, rfl, rfl, rfl, rfl, trivial⟩ (List.Sublist.refl _)
          · skip
            refine W.region ?_
            refine OpsW.det (det_move rfl) rfl ?_
            refine OpsW.det (det_move rfl) rfl ?_
            refine OpsW.guard_yes rfl rfl ?_
            refine OpsW.det (det_move rfl) rfl ?_
            refine OpsW.guard_yes rfl rfl ?_
            refine OpsW.det (det_len u76 rfl) rfl ?_
            refine OpsW.guard_yes rfl rfl ?_
            refine OpsW.det (det_move rfl) rfl ?_
            refine OpsW.guard_yes rfl rfl ?_
            refine OpsW.det (det_len u76 rfl) rfl ?_
            refine OpsW.guard_yes rfl rfl ?_
            refine OpsW.test ((det_eql (a := (l1.length : Int)) (b := (l2.length : Int)) rfl rfl).to (v := .bool (decide (l1.length = l2.length))) (congrArg Value.bool (by rw [Bool.eq_iff_iff, beq_iff_eq, decide_eq_true_iff]; omega))) rfl (fun hc57 => ?_) (fun hc57 => ?_)
            · skip
              refine OpsW.det (det_pick rfl rfl) rfl ?_
              refine OpsW.det (det_assign rfl) rfl ?_
              refine sNext ?_
              refine W.keep (F' := [(10, _), (9, _), (0, _), (1, _), (3, _)]) ⟨rfl, rfl, rfl, rfl, rfl, trivial⟩ ?_
              refine sSeq ?_
              refine W.region ?_
              refine OpsW.det (det_assign rfl) rfl ?_
              refine sNext ?_
              refine sBlock ?_
              refine sLoop (σ := Nat × Bool) (fun s => [(11, .int .i64 (s.1 : Nat)), (10, .bool s.2), (9, .pointer (some ⟨bs, 0, none⟩)), (0, .slice ad1 l1.length cap1), (1, .slice ad2 l2.length cap2), (3, .int .i64 ((k : Nat) : Int))]) (fun s => ((bs, blk [.slice (some ⟨x1, 0, none⟩) l1.length y1, .slice (some ⟨x2, 0, none⟩) l2.length y2, .int .i64 need, .slice (some ⟨x3, 0, none⟩) k k] 80) :: HX)) (fun s => CmpI (rightP l1 l2 need k) l1 l2 s.1 s.2) (fun s => l1.length - s.1) (0, true) (cmp_start hr1 hr1v hc57.symm) ⟨rfl, rfl, rfl, rfl, rfl, rfl, trivial⟩ (List.Sublist.refl _) ?_
              rintro ⟨i, r⟩ hI
              change CmpI (rightP l1 l2 need k) l1 l2 i r at hI
              refine W.norm (F' := [(11, .int .i64 (i : Nat)), (10, .bool r), (9, .pointer (some ⟨bs, 0, none⟩)), (0, .slice ad1 l1.length cap1), (1, .slice ad2 l2.length cap2), (3, .int .i64 ((k : Nat) : Int))]) (H' := ((bs, blk [.slice (some ⟨x1, 0, none⟩) l1.length y1, .slice (some ⟨x2, 0, none⟩) l2.length y2, .int .i64 need, .slice (some ⟨x3, 0, none⟩) k k] 80) :: HX)) rfl rfl ?_
              refine sSeq ?_
              refine sSeq ?_
              rcases r with _ | _
              · skip
                refine W.region ?_
                refine OpsW.det (det_move rfl) rfl ?_
                refine OpsW.det (det_move rfl) rfl ?_
                refine OpsW.guard_no rfl rfl rfl ?_
                refine OpsW.guard_no rfl rfl rfl ?_
                refine OpsW.guard_no rfl rfl rfl ?_
                refine OpsW.guard_no rfl rfl rfl ?_
                refine OpsW.det (det_pick rfl rfl) rfl ?_
                refine sNext ?_
                refine W.keep (F' := [(65, _), (11, _), (10, _), (9, _), (0, _), (1, _), (3, _)]) ⟨rfl, rfl, rfl, rfl, rfl, rfl, rfl, trivial⟩ ?_
                refine W.cond_false rfl ?_
                refine sExit ?_
                refine xLoop ?_
                refine xHere0 ?_
                exact cutOk false (bool_of ((cmp_end hI (fun h => by cases h)).trans (by rw [chk_of]; exact ⟨fun h => ⟨h.1, fun _ => h.2⟩, fun h => ⟨h.1, h.2 hk0⟩⟩))) ⟨rfl, rfl, rfl, rfl, rfl, trivial⟩ (List.Sublist.refl _)
              · skip
                refine W.region ?_
                refine OpsW.det (det_move rfl) rfl ?_
                refine OpsW.det (det_move rfl) rfl ?_
                refine OpsW.guard_yes rfl rfl ?_
                refine OpsW.det (det_move rfl) rfl ?_
                refine OpsW.guard_yes rfl rfl ?_
                refine OpsW.det (det_move rfl) rfl ?_
                refine OpsW.guard_yes rfl rfl ?_
                refine OpsW.det (det_len u76 rfl) rfl ?_
                refine OpsW.guard_yes rfl rfl ?_
                refine OpsW.det (det_lss rfl rfl) rfl ?_
                refine OpsW.det (det_pick rfl rfl) rfl ?_
                refine sNext ?_
                refine W.keep (F' := [(65, _), (11, _), (10, _), (9, _), (0, _), (1, _), (3, _)]) ⟨rfl, rfl, rfl, rfl, rfl, rfl, rfl, trivial⟩ ?_
                refine W.cond rfl (fun hc65 => ?_) (fun hc65 => ?_)
                · skip
                  have hlt1 : i < l1.length := by have h := hc65; simp only [decide_eq_true_eq] at h; omega
                  have hll := (hI.yes rfl).2.1
                  have hlt2 : i < l2.length := by omega
                  obtain ⟨bk1, o1, cap1', cs1, e1, fr1, hv1, hm1, hcell1⟩ := hB1.all (Nat.lt_of_le_of_lt (Nat.zero_le _) hlt1)
                  simp only [Value.slice.injEq] at hv1
                  obtain ⟨rfl, _, rfl⟩ := hv1
                  obtain ⟨bk2, o2, cap2', cs2, e2, fr2, hv2, hm2, hcell2⟩ := hB2.all (Nat.lt_of_le_of_lt (Nat.zero_le _) hlt2)
                  simp only [Value.slice.injEq] at hv2
                  obtain ⟨rfl, _, rfl⟩ := hv2
                  refine sSkip ?_
                  refine sSeq ?_
                  refine sBlock ?_
                  refine W.keep (F' := [(65, _), (11, _), (9, _), (0, _), (1, _), (3, _)]) ⟨rfl, rfl, rfl, rfl, rfl, rfl, trivial⟩ ?_
                  refine W.draw mixed 10 [[], [], [0, 1], [0, 1, 2], [], [], [4, 5], [4, 5, 6], [0, 1, 2, 3, 4, 5, 6, 7], [0, 1, 2, 3, 4, 5, 6, 7, 8]] (cl_lt (by decide)) ?_
                  refine HeadR.start (cl_lt (by decide)) ?_
                  refine HeadR.det rfl (fun β hβ => (det_move rfl)) ?_
                  refine HeadR.det rfl (fun β hβ => (det_move rfl)) ?_
                  refine HeadR.det rfl (fun β hβ => (det_indexAddr_sl u76 sz3 rfl rfl ⟨by omega, by omega⟩)) ?_
                  refine HeadR.det rfl (fun β hβ => (det_loadC_ro tc3 rfl (List.mem_append_left _ hm1) (cell_i (hcell1 i hlt1)))) ?_
                  refine HeadR.det rfl (fun β hβ => (det_move rfl)) ?_
                  refine HeadR.det rfl (fun β hβ => (det_move rfl)) ?_
                  refine HeadR.det rfl (fun β hβ => (det_indexAddr_sl u76 sz3 rfl rfl ⟨by omega, by omega⟩)) ?_
                  refine HeadR.det rfl (fun β hβ => (det_loadC_ro tc3 rfl (List.mem_append_left _ hm2) (cell_i (hcell2 i hlt2)))) ?_
                  refine HeadR.det rfl (fun β hβ => ((det_eql (a := l1[i]) (b := l2[i]) rfl rfl))) ?_
                  refine HeadR.det rfl (fun β hβ => (det_assign rfl)) ?_
                  refine HeadR.done ⟨by kernel_rfl, fun β hβ => ?_⟩
                  refine OpsW.norm (F' := [(68, _), (69, _), (70, _), (71, _), (72, _), (73, _), (74, _), (75, _), (76, _), (10, _), (65, _), (11, _), (9, _), (0, _), (1, _), (3, _)]) (H' := ((_, _) :: HX)) rfl rfl ?_
                  refine sLast ?_
                  refine bNext ?_
                  refine W.keep (F' := [(10, _), (11, _), (9, _), (0, _), (1, _), (3, _)]) ⟨rfl, rfl, rfl, rfl, rfl, rfl, trivial⟩ ?_
                  refine W.region ?_
                  refine OpsW.det (det_move rfl) rfl ?_
                  refine OpsW.det (det_addN (b := 1) rfl rfl (by omega)) rfl ?_
                  refine OpsW.det (det_assign rfl) rfl ?_
                  refine sLast ?_
                  exact rEnd (i + 1, l1[i] == l2[i]) (cmp_step hI hlt1 hlt2) ⟨rfl, rfl, rfl, rfl, rfl, rfl, trivial⟩ (List.Sublist.refl _) (step_lt hlt1)
                · skip
                  have hge : ¬ i < l1.length := by have h := hc65; simp only [decide_eq_false_iff_not] at h; omega
                  refine sExit ?_
                  refine xLoop ?_
                  refine xHere0 ?_
                  exact cutOk true (bool_of ((cmp_end hI (fun _ => hge)).trans (by rw [chk_of]; exact ⟨fun h => ⟨h.1, fun _ => h.2⟩, fun h => ⟨h.1, h.2 hk0⟩⟩))) ⟨rfl, rfl, rfl, rfl, rfl, trivial⟩ (List.Sublist.refl _)
            · skip
              refine OpsW.det (det_pick rfl rfl) rfl ?_
              refine OpsW.det (det_assign rfl) rfl ?_
              refine sNext ?_
              refine W.keep (F' := [(10, _), (9, _), (0, _), (1, _), (3, _)]) ⟨rfl, rfl, rfl, rfl, rfl, trivial⟩ ?_
              refine sSeq ?_
              refine W.region ?_
              refine OpsW.det (det_assign rfl) rfl ?_
              refine sNext ?_
              refine sBlock ?_
              refine sLoop (σ := Nat × Bool) (fun s => [(11, .int .i64 (s.1 : Nat)), (10, .bool s.2), (9, .pointer (some ⟨bs, 0, none⟩)), (0, .slice ad1 l1.length cap1), (1, .slice ad2 l2.length cap2), (3, .int .i64 ((k : Nat) : Int))]) (fun s => ((bs, blk [.slice (some ⟨x1, 0, none⟩) l1.length y1, .slice (some ⟨x2, 0, none⟩) l2.length y2, .int .i64 need, .slice (some ⟨x3, 0, none⟩) k k] 80) :: HX)) (fun s => CmpI (rightP l1 l2 need k) l1 l2 s.1 s.2) (fun s => l1.length - s.1) (0, false) (cmp_start hr1 hr1v hc57.symm) ⟨rfl, rfl, rfl, rfl, rfl, rfl, trivial⟩ (List.Sublist.refl _) ?_
              rintro ⟨i, r⟩ hI
              change CmpI (rightP l1 l2 need k) l1 l2 i r at hI
              refine W.norm (F' := [(11, .int .i64 (i : Nat)), (10, .bool r), (9, .pointer (some ⟨bs, 0, none⟩)), (0, .slice ad1 l1.length cap1), (1, .slice ad2 l2.length cap2), (3, .int .i64 ((k : Nat) : Int))]) (H' := ((bs, blk [.slice (some ⟨x1, 0, none⟩) l1.length y1, .slice (some ⟨x2, 0, none⟩) l2.length y2, .int .i64 need, .slice (some ⟨x3, 0, none⟩) k k] 80) :: HX)) rfl rfl ?_
              refine sSeq ?_
              refine sSeq ?_
              rcases r with _ | _
              · skip
                refine W.region ?_
                refine OpsW.det (det_move rfl) rfl ?_
                refine OpsW.det (det_move rfl) rfl ?_
                refine OpsW.guard_no rfl rfl rfl ?_
                refine OpsW.guard_no rfl rfl rfl ?_
                refine OpsW.guard_no rfl rfl rfl ?_
                refine OpsW.guard_no rfl rfl rfl ?_
                refine OpsW.det (det_pick rfl rfl) rfl ?_
                refine sNext ?_
                refine W.keep (F' := [(65, _), (11, _), (10, _), (9, _), (0, _), (1, _), (3, _)]) ⟨rfl, rfl, rfl, rfl, rfl, rfl, rfl, trivial⟩ ?_
                refine W.cond_false rfl ?_
                refine sExit ?_
                refine xLoop ?_
                refine xHere0 ?_
                exact cutOk false (bool_of ((cmp_end hI (fun h => by cases h)).trans (by rw [chk_of]; exact ⟨fun h => ⟨h.1, fun _ => h.2⟩, fun h => ⟨h.1, h.2 hk0⟩⟩))) ⟨rfl, rfl, rfl, rfl, rfl, trivial⟩ (List.Sublist.refl _)
              · skip
                refine W.region ?_
                refine OpsW.det (det_move rfl) rfl ?_
                refine OpsW.det (det_move rfl) rfl ?_
                refine OpsW.guard_yes rfl rfl ?_
                refine OpsW.det (det_move rfl) rfl ?_
                refine OpsW.guard_yes rfl rfl ?_
                refine OpsW.det (det_move rfl) rfl ?_
                refine OpsW.guard_yes rfl rfl ?_
                refine OpsW.det (det_len u76 rfl) rfl ?_
                refine OpsW.guard_yes rfl rfl ?_
                refine OpsW.det (det_lss rfl rfl) rfl ?_
                refine OpsW.det (det_pick rfl rfl) rfl ?_
                refine sNext ?_
                refine W.keep (F' := [(65, _), (11, _), (10, _), (9, _), (0, _), (1, _), (3, _)]) ⟨rfl, rfl, rfl, rfl, rfl, rfl, rfl, trivial⟩ ?_
                refine W.cond rfl (fun hc65 => ?_) (fun hc65 => ?_)
                · skip
                  have hlt1 : i < l1.length := by have h := hc65; simp only [decide_eq_true_eq] at h; omega
                  have hll := (hI.yes rfl).2.1
                  have hlt2 : i < l2.length := by omega
                  obtain ⟨bk1, o1, cap1', cs1, e1, fr1, hv1, hm1, hcell1⟩ := hB1.all (Nat.lt_of_le_of_lt (Nat.zero_le _) hlt1)
                  simp only [Value.slice.injEq] at hv1
                  obtain ⟨rfl, _, rfl⟩ := hv1
                  obtain ⟨bk2, o2, cap2', cs2, e2, fr2, hv2, hm2, hcell2⟩ := hB2.all (Nat.lt_of_le_of_lt (Nat.zero_le _) hlt2)
                  simp only [Value.slice.injEq] at hv2
                  obtain ⟨rfl, _, rfl⟩ := hv2
                  refine sSkip ?_
                  refine sSeq ?_
                  refine sBlock ?_
                  refine W.keep (F' := [(65, _), (11, _), (9, _), (0, _), (1, _), (3, _)]) ⟨rfl, rfl, rfl, rfl, rfl, rfl, trivial⟩ ?_
                  refine W.draw mixed 10 [[], [], [0, 1], [0, 1, 2], [], [], [4, 5], [4, 5, 6], [0, 1, 2, 3, 4, 5, 6, 7], [0, 1, 2, 3, 4, 5, 6, 7, 8]] (cl_lt (by decide)) ?_
                  refine HeadR.start (cl_lt (by decide)) ?_
                  refine HeadR.det rfl (fun β hβ => (det_move rfl)) ?_
                  refine HeadR.det rfl (fun β hβ => (det_move rfl)) ?_
                  refine HeadR.det rfl (fun β hβ => (det_indexAddr_sl u76 sz3 rfl rfl ⟨by omega, by omega⟩)) ?_
                  refine HeadR.det rfl (fun β hβ => (det_loadC_ro tc3 rfl (List.mem_append_left _ hm1) (cell_i (hcell1 i hlt1)))) ?_
                  refine HeadR.det rfl (fun β hβ => (det_move rfl)) ?_
                  refine HeadR.det rfl (fun β hβ => (det_move rfl)) ?_
                  refine HeadR.det rfl (fun β hβ => (det_indexAddr_sl u76 sz3 rfl rfl ⟨by omega, by omega⟩)) ?_
                  refine HeadR.det rfl (fun β hβ => (det_loadC_ro tc3 rfl (List.mem_append_left _ hm2) (cell_i (hcell2 i hlt2)))) ?_
                  refine HeadR.det rfl (fun β hβ => ((det_eql (a := l1[i]) (b := l2[i]) rfl rfl))) ?_
                  refine HeadR.det rfl (fun β hβ => (det_assign rfl)) ?_
                  refine HeadR.done ⟨by kernel_rfl, fun β hβ => ?_⟩
                  refine OpsW.norm (F' := [(68, _), (69, _), (70, _), (71, _), (72, _), (73, _), (74, _), (75, _), (76, _), (10, _), (65, _), (11, _), (9, _), (0, _), (1, _), (3, _)]) (H' := ((_, _) :: HX)) rfl rfl ?_
                  refine sLast ?_
                  refine bNext ?_
                  refine W.keep (F' := [(10, _), (11, _), (9, _), (0, _), (1, _), (3, _)]) ⟨rfl, rfl, rfl, rfl, rfl, rfl, trivial⟩ ?_
                  refine W.region ?_
                  refine OpsW.det (det_move rfl) rfl ?_
                  refine OpsW.det (det_addN (b := 1) rfl rfl (by omega)) rfl ?_
                  refine OpsW.det (det_assign rfl) rfl ?_
                  refine sLast ?_
                  exact rEnd (i + 1, l1[i] == l2[i]) (cmp_step hI hlt1 hlt2) ⟨rfl, rfl, rfl, rfl, rfl, rfl, trivial⟩ (List.Sublist.refl _) (step_lt hlt1)
                · skip
                  have hge : ¬ i < l1.length := by have h := hc65; simp only [decide_eq_false_iff_not] at h; omega
                  refine sExit ?_
                  refine xLoop ?_
                  refine xHere0 ?_
                  exact cutOk true (bool_of ((cmp_end hI (fun _ => hge)).trans (by rw [chk_of]; exact ⟨fun h => ⟨h.1, fun _ => h.2⟩, fun h => ⟨h.1, h.2 hk0⟩⟩))) ⟨rfl, rfl, rfl, rfl, rfl, trivial⟩ (List.Sublist.refl _)
        · skip
          have hk0 : ¬ k = 0 := by have h := hc50; simp at h; omega
          refine sSkip0 ?_
          exact cutOk r1 (by rw [hr1, decide_eq_decide, chk_of]; exact ⟨fun h => ⟨h, fun h0 => absurd h0 hk0⟩, fun h => h.1⟩) ⟨rfl, rfl, rfl, rfl, rfl, trivial⟩ (List.Sublist.refl _)
      · skip
        intro r2 hr2
        refine sSeq ?_
        refine sSeq ?_
        rcases r2 with _ | _
        · skip
          refine W.region ?_
          refine OpsW.det (det_loadA ty80 rfl (List.Mem.head _) rfl) rfl ?_
          refine OpsW.det (det_call en51 rfl (fun w hb ho => check_ok (G' := HX) (l1 := l1) (l2 := l2) hX1 hX2 (by omega) (by omega) (blocks_app' (fun p hp => hb _ (List.mem_cons_of_mem _ hp)) (fun p hp => ho.look (List.mem_append_right _ hp))))) rfl ?_
          refine OpsW.det (det_eql rfl rfl) rfl ?_
          refine OpsW.det (det_move rfl) rfl ?_
          refine OpsW.det (Det.to (det_neqb u4 rfl rfl) (congrArg Value.bool (ne_same (by rw [chk_zero, ← hr2])))) rfl ?_
          refine OpsW.det (det_move rfl) rfl ?_
          refine OpsW.guard_yes rfl rfl ?_
          refine OpsW.det (det_move rfl) rfl ?_
          refine OpsW.guard_yes rfl rfl ?_
          refine OpsW.det (det_not rfl) rfl ?_
          refine OpsW.guard_yes rfl rfl ?_
          refine OpsW.det (det_move rfl) rfl ?_
          refine OpsW.guard_yes rfl rfl ?_
          refine OpsW.det (det_loadA ty80 rfl (List.Mem.head _) rfl) rfl ?_
          refine OpsW.guard_yes rfl rfl ?_
          refine OpsW.det (det_call en51 rfl (fun w hb ho => check_ok (G' := HX) (l1 := l1) (l2 := l2) hX1 hX2 (by omega) (by omega) (blocks_app' (fun p hp => hb _ (List.mem_cons_of_mem _ hp)) (fun p hp => ho.look (List.mem_append_right _ hp))))) rfl ?_
          refine OpsW.guard_yes rfl rfl ?_
          refine OpsW.det (Det.to (det_neq rfl rfl) (congrArg Value.bool (chk_one hr2))) rfl ?_
          refine OpsW.guard_yes rfl rfl ?_
          refine OpsW.det (det_pick rfl rfl) rfl ?_
          refine OpsW.det (det_pick rfl rfl) rfl ?_
          refine sNext ?_
          refine W.keep (F' := [(90, _), (10, _), (9, _), (0, _), (3, _)]) ⟨rfl, rfl, rfl, rfl, rfl, trivial⟩ ?_
          refine W.cond_false rfl ?_
          refine sSkip ?_
          refine sSeq ?_
          refine W.region ?_
          refine OpsW.det (det_move rfl) rfl ?_
          refine OpsW.det (det_len u76 rfl) rfl ?_
          refine OpsW.det (det_assign rfl) rfl ?_
          refine sNext ?_
          refine W.keep (F' := [(12, _), (10, _), (9, _), (3, _)]) ⟨rfl, rfl, rfl, rfl, trivial⟩ ?_
          refine sSeq ?_
          refine W.region ?_
          refine OpsW.det (det_move rfl) rfl ?_
          refine OpsW.det (det_not rfl) rfl ?_
          refine OpsW.det (det_move rfl) rfl ?_
          refine OpsW.guard_no rfl rfl rfl ?_
          refine OpsW.guard_no rfl rfl rfl ?_
          refine OpsW.guard_no rfl rfl rfl ?_
          refine OpsW.guard_un rfl rfl rfl ?_
          refine OpsW.guard_un rfl rfl rfl ?_
          refine OpsW.guard_un rfl rfl rfl ?_
          refine OpsW.guard_un rfl rfl rfl ?_
          refine OpsW.guard_no rfl rfl rfl ?_
          refine OpsW.det (det_pick rfl rfl) rfl ?_
          refine OpsW.det (det_move rfl) rfl ?_
          refine OpsW.guard_no rfl rfl rfl ?_
          refine OpsW.guard_no rfl rfl rfl ?_
          refine OpsW.guard_no rfl rfl rfl ?_
          refine OpsW.guard_un rfl rfl rfl ?_
          refine OpsW.guard_un rfl rfl rfl ?_
          refine OpsW.guard_un rfl rfl rfl ?_
          refine OpsW.guard_un rfl rfl rfl ?_
          refine OpsW.guard_un rfl rfl rfl ?_
          refine OpsW.guard_un rfl rfl rfl ?_
          refine OpsW.guard_un rfl rfl rfl ?_
          refine OpsW.guard_un rfl rfl rfl ?_
          refine OpsW.guard_no rfl rfl rfl ?_
          refine OpsW.det (det_pick rfl rfl) rfl ?_
          refine OpsW.det (det_assign rfl) rfl ?_
          refine sNext ?_
          refine W.keep (F' := [(8, _)]) ⟨rfl, trivial⟩ ?_
          refine sRet ?_
          exact done1 Tryd.results8 (rv_tmp rfl) rfl
        · skip
          refine W.region ?_
          refine OpsW.det (det_loadA ty80 rfl (List.Mem.head _) rfl) rfl ?_
          refine OpsW.det (det_call en51 rfl (fun w hb ho => check_ok (G' := HX) (l1 := l1) (l2 := l2) hX1 hX2 (by omega) (by omega) (blocks_app' (fun p hp => hb _ (List.mem_cons_of_mem _ hp)) (fun p hp => ho.look (List.mem_append_right _ hp))))) rfl ?_
          refine OpsW.det (det_eql rfl rfl) rfl ?_
          refine OpsW.det (det_move rfl) rfl ?_
          refine OpsW.det (Det.to (det_neqb u4 rfl rfl) (congrArg Value.bool (ne_same (by rw [chk_zero, ← hr2])))) rfl ?_
          refine OpsW.det (det_move rfl) rfl ?_
          refine OpsW.guard_yes rfl rfl ?_
          refine OpsW.det (det_move rfl) rfl ?_
          refine OpsW.guard_yes rfl rfl ?_
          refine OpsW.det (det_not rfl) rfl ?_
          refine OpsW.guard_yes rfl rfl ?_
          refine OpsW.det (det_move rfl) rfl ?_
          refine OpsW.guard_no rfl rfl rfl ?_
          refine OpsW.guard_no rfl rfl rfl ?_
          refine OpsW.guard_no rfl rfl rfl ?_
          refine OpsW.guard_yes rfl rfl ?_
          refine OpsW.det (det_pick rfl rfl) rfl ?_
          refine OpsW.det (det_pick rfl rfl) rfl ?_
          refine sNext ?_
          refine W.keep (F' := [(90, _), (10, _), (9, _), (0, _), (3, _)]) ⟨rfl, rfl, rfl, rfl, rfl, trivial⟩ ?_
          refine W.cond_false rfl ?_
          refine sSkip ?_
          refine sSeq ?_
          refine W.region ?_
          refine OpsW.det (det_move rfl) rfl ?_
          refine OpsW.det (det_len u76 rfl) rfl ?_
          refine OpsW.det (det_assign rfl) rfl ?_
          refine sNext ?_
          refine W.keep (F' := [(12, _), (10, _), (9, _), (3, _)]) ⟨rfl, rfl, rfl, rfl, trivial⟩ ?_
          refine sSeq ?_
          refine W.region ?_
          refine OpsW.det (det_move rfl) rfl ?_
          refine OpsW.det (det_not rfl) rfl ?_
          refine OpsW.det (det_move rfl) rfl ?_
          refine OpsW.guard_yes rfl rfl ?_
          refine OpsW.det (det_move rfl) rfl ?_
          refine OpsW.guard_yes rfl rfl ?_
          refine OpsW.test (det_gtr rfl rfl) rfl (fun hc97 => ?_) (fun hc97 => ?_)
          · skip
            refine OpsW.guard_yes rfl rfl ?_
            refine OpsW.det (det_move rfl) rfl ?_
            refine OpsW.guard_yes rfl rfl ?_
            refine OpsW.det (det_loadA ty80 rfl (List.Mem.head _) rfl) rfl ?_
            refine OpsW.guard_yes rfl rfl ?_
            refine OpsW.det (det_call en52 rfl (fun w hb ho => least_ok (fun p hp => ho.look (List.mem_append_right _ hp)))) rfl ?_
            refine OpsW.guard_yes rfl rfl ?_
            refine OpsW.det (det_move rfl) rfl ?_
            refine OpsW.guard_yes rfl rfl ?_
            refine OpsW.det (Det.to (det_eql rfl rfl) (congrArg Value.bool (least_pos (by have h := of_decide_eq_true hc97; omega)))) rfl ?_
            refine OpsW.guard_yes rfl rfl ?_
            refine OpsW.det (det_pick rfl rfl) rfl ?_
            refine OpsW.det (det_pick rfl rfl) rfl ?_
            refine OpsW.det (det_move rfl) rfl ?_
            refine OpsW.guard_no rfl rfl rfl ?_
            refine OpsW.guard_no rfl rfl rfl ?_
            refine OpsW.guard_no rfl rfl rfl ?_
            refine OpsW.guard_un rfl rfl rfl ?_
            refine OpsW.guard_un rfl rfl rfl ?_
            refine OpsW.guard_un rfl rfl rfl ?_
            refine OpsW.guard_un rfl rfl rfl ?_
            refine OpsW.guard_un rfl rfl rfl ?_
            refine OpsW.guard_un rfl rfl rfl ?_
            refine OpsW.guard_un rfl rfl rfl ?_
            refine OpsW.guard_un rfl rfl rfl ?_
            refine OpsW.guard_no rfl rfl rfl ?_
            refine OpsW.det (det_pick rfl rfl) rfl ?_
            refine OpsW.det (det_assign rfl) rfl ?_
            refine sNext ?_
            refine W.keep (F' := [(8, _)]) ⟨rfl, trivial⟩ ?_
            refine sRet ?_
            exact done1 Tryd.results8 (rv_tmp rfl) rfl
          · skip
            refine OpsW.guard_yes rfl rfl ?_
            refine OpsW.det (det_move rfl) rfl ?_
            refine OpsW.guard_no rfl rfl rfl ?_
            refine OpsW.guard_no rfl rfl rfl ?_
            refine OpsW.guard_no rfl rfl rfl ?_
            refine OpsW.guard_no rfl rfl rfl ?_
            refine OpsW.guard_yes rfl rfl ?_
            refine OpsW.det (det_pick rfl rfl) rfl ?_
            refine OpsW.det (det_pick rfl rfl) rfl ?_
            refine OpsW.det (det_move rfl) rfl ?_
            refine OpsW.guard_yes rfl rfl ?_
            refine OpsW.det (det_move rfl) rfl ?_
            refine OpsW.guard_yes rfl rfl ?_
            refine OpsW.det (Det.to (det_eql rfl rfl) (congrArg Value.bool ((by have h := of_decide_eq_false hc97; rw [beq_iff_eq]; omega)))) rfl ?_
            refine OpsW.guard_yes rfl rfl ?_
            refine OpsW.det (det_move rfl) rfl ?_
            refine OpsW.guard_yes rfl rfl ?_
            refine OpsW.det (det_loadA ty80 rfl (List.Mem.head _) rfl) rfl ?_
            refine OpsW.guard_yes rfl rfl ?_
            refine OpsW.det (det_call en52 rfl (fun w hb ho => least_ok (fun p hp => ho.look (List.mem_append_right _ hp)))) rfl ?_
            refine OpsW.guard_yes rfl rfl ?_
            refine OpsW.det (det_move rfl) rfl ?_
            refine OpsW.guard_yes rfl rfl ?_
            refine OpsW.det (det_move rfl) rfl ?_
            refine OpsW.guard_yes rfl rfl ?_
            refine OpsW.det (det_sub rfl rfl) rfl ?_
            refine OpsW.guard_yes rfl rfl ?_
            refine OpsW.det (det_quo rfl rfl (by decide)) rfl ?_
            refine OpsW.guard_yes rfl rfl ?_
            refine OpsW.det (det_sub rfl rfl) rfl ?_
            refine OpsW.guard_yes rfl rfl ?_
            refine OpsW.det (Det.to (det_eql rfl rfl) (congrArg Value.bool (least_zero (by have h := of_decide_eq_false hc97; omega)))) rfl ?_
            refine OpsW.guard_yes rfl rfl ?_
            refine OpsW.det (det_pick rfl rfl) rfl ?_
            refine OpsW.det (det_pick rfl rfl) rfl ?_
            refine OpsW.det (det_assign rfl) rfl ?_
            refine sNext ?_
            refine W.keep (F' := [(8, _)]) ⟨rfl, trivial⟩ ?_
            refine sRet ?_
            exact done1 Tryd.results8 (rv_tmp rfl) rfl

end Go.Cu
