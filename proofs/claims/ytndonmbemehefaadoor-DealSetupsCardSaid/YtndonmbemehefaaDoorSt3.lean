/-
  How a commitment is told: the walk. Conditions: as many as memory has.
-/
import Derived.Test.YtndonmbemehefaaDoorSt2
import Derived.Test.YtndonmbemehefaaDoorCf2
import Derived.Test.YtndonmbemehefaaDoorVmNew
import Derived.Test.YtndonmbemehefaaDoorG1e
namespace Go.Cu
open Go Go.Vm Go.RowKit Go.Proofs 
attribute [local irreducible] W OpsW Det Fresh New Writes Vm.Pure Makes Changes ExternTo BuildTo ZeroTo FieldTo IndexTo BinTo SliceTo Vm.Enters
set_option linter.unusedVariables false
set_option linter.unusedSimpArgs false
variable {T : Nat → TypeId × Nat × Nat}

/-- What is told of a commitment. -/
def forms1 (L : List Pt) : List Value := (L.map form1).flatten
theorem forms1_step {l : List Pt} {i : Nat} (h : i < l.length) : forms1 (l.take (i + 1)) = forms1 (l.take i) ++ form1 l[i] := by
  unfold forms1; rw [List.take_succ_eq_append_getElem h]; exact flat_snoc form1 _ _
theorem tc31 : TyA Tryd.prog 31 12 := ⟨by kernel_rfl, by kernel_rfl⟩
theorem sliceGen {p : Pt} : SliceTo Tryd.prog 78 1 [(0, encP p)] (cellsP p) 31 := SliceTo.of fun _ => by kernel_rfl
theorem ptsOne {p : Pt} {b : Nat} : Pts [(b, blk (cellsP p) 31)] (.slice (some ⟨b, 0, none⟩) 1 1) [p] :=
  ⟨⟨_, _, rfl⟩, fun i h => ⟨b, 0, 1, _, 31, (0, 0), rfl, List.mem_singleton.2 rfl, by
    have h : i < 1 := h
    obtain rfl : i = 0 := by omega
    rfl⟩⟩
theorem off_w {o i : Nat} : o + ((i : Nat) : Int).toNat * 12 = o + i * 12 := by simp

theorem en34 : Vm.Enters Tryd.prog 34 := Vm.Enters.of fun _ _ => by kernel_rfl
theorem Write_ok {G' : Hp} {v : Value} {l : List Pt} (hB : Pts G' v l) (hl : l.length ≤ 1000000) (h0 : 0 < l.length) {w : World} (hG : Blocks (G' ++ GH T) w)  : Makes Tryd.prog 76 #[v] w (fun p => .slice (some ⟨p.1, 0, none⟩) (48 * l.length) p.2.1) (fun p => [(p.1, blk (forms1 l ++ p.2.2) 5)]) (fun p => (forms1 l ++ p.2.2).length = p.2.1 * 1) := by
  obtain ⟨ad, cap, hvv⟩ := hB.shape
  subst hvv
  refine makes_of_W (n := 20) (args := [.slice ad l.length cap]) Tryd.func76 rfl Tryd.ntmps76 (Nat.le_of_ble_eq_true rfl) hG ?_
  refine sStart ?_
  refine sSeq ?_
  refine W.region ?_
  refine OpsW.det (det_assign rfl) rfl ?_
  refine sNext ?_
  refine W.keep (F' := [(0, _)]) ⟨rfl, trivial⟩ ?_
  refine sSeq ?_
  refine W.region ?_
  refine OpsW.det (det_assign rfl) rfl ?_
  refine sNext ?_
  refine sSeq ?_
  refine sSeq ?_
  refine W.region ?_
  refine OpsW.det (det_move rfl) rfl ?_
  refine OpsW.det (det_len u78 rfl) rfl ?_
  refine OpsW.det (det_move rfl) rfl ?_
  refine sNext ?_
  refine W.keep (F' := [(9, _), (8, _), (7, _), (3, _)]) ⟨rfl, rfl, rfl, rfl, trivial⟩ ?_
  refine sBlock ?_
  refine sLoop (σ := Nat × Value × Hp) (fun s => [(9, .int .i64 (s.1 : Nat)), (8, .int .i64 (l.length : Nat)), (7, .slice ad l.length cap), (3, s.2.1)]) (fun s => s.2.2) (fun s => s.1 ≤ l.length ∧ IsSl 5 1 s.2.1 (48 * s.1) s.2.2 (forms1 (l.take s.1))) (fun s => l.length - s.1) (0, .slice none 0 0, []) ⟨Nat.zero_le _, .nil⟩ ⟨rfl, rfl, rfl, rfl, trivial⟩ (List.Sublist.refl _) ?_
  rintro ⟨i, v, hp⟩ ⟨hi, hsl⟩
  change IsSl 5 1 v (48 * i) hp (forms1 (l.take i)) at hsl
  change i ≤ l.length at hi
  refine W.norm (F' := [(9, .int .i64 (i : Nat)), (8, .int .i64 (l.length : Nat)), (7, .slice ad l.length cap), (3, v)]) (H' := hp) rfl rfl ?_
  refine sSeq ?_
  refine W.region ?_
  refine OpsW.det (det_lss rfl rfl) rfl ?_
  refine sNext ?_
  refine sSeq ?_
  refine W.cond rfl (fun hc10 => ?_) (fun hc10 => ?_)
  · skip
    have hlt : i < l.length := by have h := hc10; simp only [decide_eq_true_eq] at h; omega
    obtain ⟨bk, o, cap', cs, e, fr, hv, hm, hcell⟩ := hB.at_ i hlt
    simp only [Value.slice.injEq] at hv
    obtain ⟨rfl, _, rfl⟩ := hv
    refine sSkip ?_
    refine sSeq ?_
    refine sBlock ?_
    refine sSeq ?_
    refine W.region ?_
    refine OpsW.det (det_indexAddr_sl u78 sz31 rfl rfl ⟨by omega, by omega⟩) rfl ?_
    refine OpsW.det (det_loadA_ro ty31 rfl (List.mem_append_left _ hm) (show cut (o + ((i : Nat) : Int).toNat * 12) 12 cs = some (cellsP l[i]) by rw [off_w]; exact hcell)) rfl ?_
    refine OpsW.fresh (fr_alloc z31) rfl fun b5 => ?_
    refine OpsW.store sz31 rfl rfl rfl rfl rfl (Upd.here) rfl ?_
    refine sNext ?_
    refine W.keep (F' := [(5, _), (9, _), (8, _), (7, _), (3, _)]) ⟨rfl, rfl, rfl, rfl, rfl, trivial⟩ ?_
    refine sSeq ?_
    refine W.region ?_
    refine OpsW.det ((det_loadA ty31 rfl (List.Mem.head _) (show cut 0 12 (cellsP l[i]) = some (cellsP l[i]) from rfl)).to (v := encP l[i]) rfl) rfl ?_
    refine OpsW.det (det_call en34 rfl (fun w hb ho => CG1_ok (fun p hp => ho.look (List.mem_append_right _ hp)))) rfl ?_
    refine OpsW.fresh (fr_alloc z58) rfl fun b6 => ?_
    refine OpsW.store sz58 rfl rfl rfl (form1_len _) (form1_one _) (Upd.here) (splice_all (by rw [form1_len, fst6_len (Nat.zero_le _)])) ?_
    refine sNext ?_
    refine W.keep (F' := [(6, _), (9, _), (8, _), (7, _), (3, _)]) ⟨rfl, rfl, rfl, rfl, rfl, trivial⟩ ?_
    refine W.region ?_
    refine OpsW.det (det_move rfl) rfl ?_
    refine OpsW.det ((det_sliceArr (lo := none) (hi := none) (l := 0) (h := 48) u58 sz5 rfl rfl rfl (by decide) (by decide)).to (v := .slice (some ⟨b6, 0, none⟩) 48 48) rfl) rfl ?_
    refine OpsW.perm (H' := hp ++ [(b6, _), (b5, _)]) List.perm_append_comm ?_
    refine OpsW.append (dd := 17) (news := form1 l[i]) ty22 rfl hsl rfl (.inl (List.mem_append_right _ (List.Mem.head _))) (form1_len _) (fun j u h => by rw [Nat.zero_add]; exact h) (form1_one _) (by show 48 * i + 48 ≤ 9223372036854775807; omega) (by show (48 * i + 48) * 1 ≤ 140737488355328; omega) rfl fun v' hp' hsl' => ?_
    rw [← forms1_step hlt] at hsl'
    refine OpsW.det (det_assign rfl) rfl ?_
    refine sLast ?_
    refine bNext ?_
    refine W.keep (F' := [(3, _), (9, _), (8, _), (7, _)]) ⟨rfl, rfl, rfl, rfl, trivial⟩ ?_
    refine W.region ?_
    refine OpsW.det (det_addN (b := 1) rfl rfl (by omega)) rfl ?_
    refine OpsW.det (det_move rfl) rfl ?_
    refine sLast ?_
    exact rEnd (i + 1, v', hp') ⟨hlt, hsl'⟩ ⟨rfl, rfl, rfl, rfl, trivial⟩ (List.sublist_append_left _ _) (step_lt hlt)
  · skip
    have hi4 : i = l.length := by have h := hc10; simp only [decide_eq_false_iff_not] at h; omega
    subst hi4
    rw [List.take_length] at hsl
    obtain ⟨bn, capn, spn, rfl, rfl, h2n, _⟩ := isSl_pos hsl (by omega)
    refine sExit ?_
    refine xLoop ?_
    refine xHere ?_
    refine W.keep (F' := [(3, _)]) ⟨rfl, trivial⟩ ?_
    refine sSeq ?_
    refine W.region ?_
    refine OpsW.det (det_move rfl) rfl ?_
    refine OpsW.det (det_assign rfl) rfl ?_
    refine sNext ?_
    refine W.keep (F' := [(2, _)]) ⟨rfl, trivial⟩ ?_
    refine sRet ?_
    exact done1 Tryd.results76 (rv_tmp rfl) ⟨(bn, capn, spn), h2n, rfl, List.Sublist.refl _⟩

end Go.Cu
