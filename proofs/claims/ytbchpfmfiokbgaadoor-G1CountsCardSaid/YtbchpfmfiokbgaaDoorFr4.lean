/-
  The scalars: their bytes: the walks. Conditions: none.
-/
import Derived.Test.YtbchpfmfiokbgaaDoorFr3
namespace Go.Cu
open Go Go.Vm Go.RowKit Go.Proofs 
attribute [local irreducible] W OpsW Det Fresh New Writes Vm.Pure Makes Changes ExternTo BuildTo ZeroTo FieldTo IndexTo BinTo SliceTo Vm.Enters
set_option linter.unusedVariables false
set_option linter.unusedSimpArgs false
variable {T : Nat → TypeId × Nat × Nat}

/-- Byte j of x, the lowest first. -/
def byt (x j : Nat) : Nat := x / 256 ^ j % 256
def u8 (n : Nat) : Value := .int .u8 (n : Int)
/-- The bytes of x from the n-th down to the k-th. -/
def bytes (x n : Nat) : Nat → List Value
  | 0 => []
  | k + 1 => bytes x n k ++ [u8 (byt x (n - 1 - k))]
theorem bytes_len (x n k : Nat) : (bytes x n k).length = k := by
  induction k with
  | zero => rfl
  | succ k ih => simp [bytes, ih]
theorem slice22 {v : Int} : SliceTo Tryd.prog 22 1 [(0, .int .u8 v)] [.int .u8 v] 5 := SliceTo.of fun _ => by kernel_rfl
theorem wrap_u8 {a : Nat} : IntKind.u8.wrap (a : Int) = ((a % 256 : Nat) : Int) := by simp [IntKind.wrap, IntKind.signed, IntKind.bits]
theorem ty22 : TyS Tryd.prog 22 5 1 1 [.int .u8 0] := ⟨by kernel_rfl, by kernel_rfl, by kernel_rfl, ⟨.int .u8 0, by kernel_rfl, by kernel_rfl⟩, rfl, by decide⟩
theorem byt_eq (x i : Nat) : x / 2 ^ (8 * i) % 256 = byt x i := by unfold byt; rw [Nat.pow_mul]
theorem isSl_at {el s len : Nat} {v : Value} {hp : Hp} {xs : List Value} (h : IsSl el s v len hp xs) (h0 : 0 < len) : ∃ p : Prm, v = .slice (some ⟨p.1, 0, none⟩) len p.2.1 ∧ hp = [(p.1, blk (xs ++ p.2.2) el)] ∧ (xs ++ p.2.2).length = p.2.1 * s := by
  cases h with
  | nil => omega
  | at_ h1 h2 h3 => exact ⟨(_, _, _), rfl, rfl, h2⟩

theorem u25 : Tryd.prog.underlying 25 = some (.int .u64) := by kernel_rfl
theorem u5 : Tryd.prog.underlying 5 = some (.int .u8) := by kernel_rfl
theorem put_ok {x n : Nat} (hx : x < 18446744073709551616) (hn : 0 < n ∧ n ≤ 8) {w : World} (hG : Blocks (GH T) w)  : Makes Tryd.prog 72 #[.slice none 0 0, u64 x, .int .i64 (n : Nat)] w (fun p => .slice (some ⟨p.1, 0, none⟩) n p.2.1) (fun p => [(p.1, blk (bytes x n n ++ p.2.2) 5)]) (fun p => (bytes x n n ++ p.2.2).length = p.2.1 * 1) := by
  refine makes_of_W (n := 23) (args := [.slice none 0 0, u64 x, .int .i64 (n : Nat)]) Tryd.func72 rfl Tryd.ntmps72 (Nat.le_of_ble_eq_true rfl) hG ?_
  refine sStart ?_
  refine sSeq ?_
  refine W.region ?_
  refine OpsW.det (det_assign rfl) rfl ?_
  refine sNext ?_
  refine W.keep (F' := [(0, _), (1, _), (2, _)]) ⟨rfl, rfl, rfl, trivial⟩ ?_
  refine sSeq ?_
  refine sSeq ?_
  refine W.region ?_
  refine OpsW.det (det_move rfl) rfl ?_
  refine OpsW.det (det_subZ (c := ((n - 0 : Nat) : Int) - 1) rfl rfl (by omega) (by omega)) rfl ?_
  refine OpsW.det (det_assign rfl) rfl ?_
  refine sNext ?_
  refine W.keep (F' := [(7, _), (0, _), (1, _)]) ⟨rfl, rfl, rfl, trivial⟩ ?_
  refine sBlock ?_
  refine sLoop (σ := Nat × Value × Hp) (fun s => [(7, .int .i64 (((n - s.1 : Nat) : Int) - 1)), (1, u64 x), (0, s.2.1)]) (fun s => s.2.2) (fun s => s.1 ≤ n ∧ IsSl 5 1 s.2.1 s.1 s.2.2 (bytes x n s.1)) (fun s => n - s.1) (0, .slice none 0 0, []) ⟨Nat.zero_le _, .nil⟩ ⟨rfl, rfl, rfl, trivial⟩ (List.Sublist.refl _) ?_
  rintro ⟨k, v, hp⟩ ⟨hk, hsl⟩
  change IsSl 5 1 v k hp (bytes x n k) at hsl
  change k ≤ n at hk
  refine W.norm (F' := [(7, .int .i64 (((n - k : Nat) : Int) - 1)), (1, u64 x), (0, v)]) (H' := hp) rfl rfl ?_
  refine sSeq ?_
  refine sSeq ?_
  refine W.region ?_
  refine OpsW.det (det_move rfl) rfl ?_
  refine OpsW.det (det_geq rfl rfl) rfl ?_
  refine sNext ?_
  refine W.keep (F' := [(11, _), (7, _), (1, _), (0, _)]) ⟨rfl, rfl, rfl, rfl, trivial⟩ ?_
  refine W.cond rfl (fun hc11 => ?_) (fun hc11 => ?_)
  · skip
    have hkn : k < n := by have h := hc11; simp only [decide_eq_true_eq] at h; omega
    refine W.norm (F' := [(11, _), (7, .int .i64 ((n - 1 - k : Nat) : Int)), (1, u64 x), (0, v)]) (H' := hp) (by rw [show ((n - k : Nat) : Int) - 1 = ((n - 1 - k : Nat) : Int) by omega]) rfl ?_
    refine sSkip ?_
    refine sSeq ?_
    refine sBlock ?_
    refine W.region ?_
    refine OpsW.det (det_move rfl) rfl ?_
    refine OpsW.det (det_move rfl) rfl ?_
    refine OpsW.det (det_move rfl) rfl ?_
    refine OpsW.det ((det_mul rfl rfl).to (v := .int .i64 ((8 * (n - 1 - k) : Nat) : Int)) (by rw [wrap_i64 (by omega)]; congr 1)) rfl ?_
    refine OpsW.det (det_shrN rfl rfl (by omega)) rfl ?_
    refine OpsW.det ((det_conv u25 u5 rfl).to (v := u8 (byt x (n - 1 - k))) (by rw [wrap_u8, byt_eq]; rfl)) rfl ?_
    refine OpsW.fresh (fr_buildSlice rfl slice22) rfl fun b20 => ?_
    refine OpsW.perm (H' := hp ++ [(b20, blk [u8 (byt x (n - 1 - k))] 5)]) List.perm_append_comm ?_
    refine OpsW.append (dd := 21) ty22 rfl hsl rfl (.inl (List.mem_append_right _ (List.Mem.head _))) rfl (fun j u h => by simpa using h) rfl (by show k + 1 ≤ 9223372036854775807; omega) (by show (k + 1) * 1 ≤ 140737488355328; omega) rfl fun v' hp' hsl' => ?_
    refine OpsW.det (det_assign rfl) rfl ?_
    refine sLast ?_
    refine bNext ?_
    refine W.keep (F' := [(0, _), (7, _), (1, _)]) ⟨rfl, rfl, rfl, trivial⟩ ?_
    refine W.region ?_
    refine OpsW.det (det_move rfl) rfl ?_
    refine OpsW.det (det_subZ (c := ((n - (k + 1) : Nat) : Int) - 1) rfl rfl (by omega) (by omega)) rfl ?_
    refine OpsW.det (det_assign rfl) rfl ?_
    refine sLast ?_
    exact rEnd (k + 1, v', hp') ⟨by omega, hsl'⟩ ⟨rfl, rfl, rfl, trivial⟩ (List.sublist_append_left _ _) (by show n - (k + 1) < n - k; omega)
  · skip
    have hkn : k = n := by have h := hc11; simp only [decide_eq_false_iff_not] at h; omega
    subst hkn
    obtain ⟨p, rfl, rfl, hpp⟩ := isSl_at hsl hn.1
    refine sExit ?_
    refine xLoop ?_
    refine xHere ?_
    refine W.keep (F' := [(0, _)]) ⟨rfl, trivial⟩ ?_
    refine sSeq ?_
    refine W.region ?_
    refine OpsW.det (det_move rfl) rfl ?_
    refine OpsW.det (det_assign rfl) rfl ?_
    refine sNext ?_
    refine W.keep (F' := [(6, _)]) ⟨rfl, trivial⟩ ?_
    refine sRet ?_
    exact done1 Tryd.results72 (rv_tmp rfl) ⟨p, hpp, rfl, List.Sublist.refl _⟩

end Go.Cu
