/-
  Scalars of bytes, and bits of bytes: the walks. Conditions: as many bytes as memory has.
-/
import Derived.Test.YtbchpfmfiokbgaaDoorFr7
import Derived.Test.YtbchpfmfiokbgaaDoorG1a
namespace Go.Cu
open Go Go.Vm Go.RowKit Go.Proofs 
attribute [local irreducible] W OpsW Det Fresh New Writes Vm.Pure Makes Changes ExternTo BuildTo ZeroTo FieldTo IndexTo BinTo SliceTo Vm.Enters
set_option linter.unusedVariables false
set_option linter.unusedSimpArgs false
variable {T : Nat → TypeId × Nat × Nat}

def longB (a b c : Nat) : Bool := decide (100 < a) || decide (100 < b) || decide (100 < c)
/-- Bit i of the number that bytes are, the highest byte first. -/
def bitB (l : List Nat) (i : Nat) : Nat := if 8 * l.length ≤ i then 0 else l.getD (l.length - 1 - i / 8) 0 / 2 ^ (i % 8) % 2
theorem bitB_no {l : List Nat} {i : Nat} (h : 8 * l.length ≤ i) : bitB l i = 0 := if_pos h
theorem bitB_yes {l : List Nat} {i : Nat} (h : ¬ 8 * l.length ≤ i) (h2 : l.length - 1 - i / 8 < l.length) : bitB l i = l[l.length - 1 - i / 8] / 2 ^ (i % 8) % 2 := by
  unfold bitB
  rw [if_neg h, List.getD_eq_getElem?_getD, List.getElem?_eq_getElem h2]; rfl
theorem tyc22 : TyC Tryd.prog 22 := ⟨by kernel_rfl, by kernel_rfl⟩
section
variable {P : Program} {K : List Nat} {G : Hp} {w0 : World} {F : Fr} {H : Hp} {ty : TypeId} {pos : String} {after : Array Edge} {x y : Operand} {xt yt : TypeId} {d : Option Tmp} {g : Option (Nat × Bool)}
theorem det_shr8 {a b : Nat} {k : IntKind} (hx : ev F x = some (.int .u8 a)) (hy : ev F y = some (.int k b)) (hb : b ≤ 8) : Det P K G w0 ⟨d, .binOp .shr xt x y yt, ty, pos, after, g⟩ F H (.int .u8 ((a / 2 ^ b : Nat) : Int)) :=
  (det_shr hx hy (by omega)).to (by
    rw [show min (b : Int).toNat IntKind.u8.bits = b from by show min (b : Int).toNat 8 = b; omega]
    congr 1
    rw [Int.fdiv_eq_ediv_of_nonneg _ (by exact Int.natCast_nonneg (2 ^ b)), Int.natCast_ediv]; rfl)
theorem and8 {a : Nat} (ha : a < 256) : bitsOf .and .u8 a 1 = ((a % 2 : Nat) : Int) := by
  have h1 : (BitVec.ofInt IntKind.u8.bits (a : Int)).toNat = a := by
    show (BitVec.ofInt 8 (a : Int)).toNat = a
    rw [BitVec.toNat_ofInt]; omega
  unfold bitsOf
  simp only [BitVec.toNat_and, h1]
  rw [show (BitVec.ofInt IntKind.u8.bits (1 : Int)).toNat = 2 ^ 1 - 1 by rfl, Nat.and_two_pow_sub_one_eq_mod, wrap_u8]
  omega
theorem det_and8 {a : Nat} (hx : ev F x = some (.int .u8 a)) (hy : ev F y = some (.int .u8 1)) (ha : a < 256) : Det P K G w0 ⟨d, .binOp .and xt x y yt, ty, pos, after, g⟩ F H (.int .u8 ((a % 2 : Nat) : Int)) :=
  (det_and hx hy).to (by rw [and8 ha])
end

theorem en50 : Vm.Enters Tryd.prog 50 := Vm.Enters.of fun _ _ => by kernel_rfl
theorem en51 : Vm.Enters Tryd.prog 51 := Vm.Enters.of fun _ _ => by kernel_rfl
theorem u3 : Tryd.prog.underlying 3 = some (.int .i64) := by kernel_rfl
theorem scalar_ok {G' : Hp} {v : Value} {l : List Nat} (hB : Bs G' v l) (hl : l.length ≤ 281474976710656) {w : World} (hG : Blocks (G' ++ GH T) w)  : Vm.Pure Tryd.prog 19 #[v] w (encR (wide l)) := by
  refine pure_of_W (n := 6) (args := [v]) Tryd.func19 rfl Tryd.ntmps19 (Nat.le_of_ble_eq_true rfl) hG ?_
  refine sStart ?_
  refine sSeq ?_
  refine W.region ?_
  refine OpsW.fresh (fr_alloc z35) rfl fun b2 => ?_
  refine sNext ?_
  refine sSeq ?_
  refine W.region ?_
  refine OpsW.det (det_move rfl) rfl ?_
  refine OpsW.new (new_call en51 rfl (fun w hb ho => Copy_ok (G' := G') hB hl ho.blocks)) rfl fun p4 hp4 => ?_
  refine OpsW.det (det_call en50 rfl (fun w hb ho => Wide_ok (G' := [(p4.1, blk (bcells l ++ []) 5)]) (Bs.of hB.small (Nat.le_refl _)) (by omega) (blocks_cons (hb _ (List.Mem.head _)) (fun p hp => ho.look (List.mem_append_right _ hp))))) rfl ?_
  refine OpsW.store sz35 rfl rfl rfl rfl rfl (Upd.there (Upd.here)) rfl ?_
  refine sNext ?_
  refine W.keep (F' := [(2, _)]) ⟨rfl, trivial⟩ ?_
  refine sRet ?_
  exact done1 Tryd.results19 (rv_cellA ty35 rfl (List.Mem.tail _ (List.Mem.head _)) rfl) rfl
theorem long_ok {a b c : Option Addr} {la lb lc ca cb cc : Nat} {w : World} (hG : Blocks (GH T) w)  : Vm.Pure Tryd.prog 16 #[.slice a la ca, .slice b lb cb, .slice c lc cc] w (.bool (longB la lb lc)) := by
  refine pure_of_W (n := 20) (args := [.slice a la ca, .slice b lb cb, .slice c lc cc]) Tryd.func16 rfl Tryd.ntmps16 (Nat.le_of_ble_eq_true rfl) hG ?_
  refine sStart ?_
  refine sSeq ?_
  refine W.region ?_
  refine OpsW.det (det_assign rfl) rfl ?_
  refine sNext ?_
  refine W.keep (F' := [(0, _), (1, _), (2, _)]) ⟨rfl, rfl, rfl, trivial⟩ ?_
  refine sSeq ?_
  refine W.region ?_
  refine OpsW.det (det_move rfl) rfl ?_
  refine OpsW.det (det_len u22 rfl) rfl ?_
  refine OpsW.test (det_gtr rfl rfl) rfl (fun hc9 => ?_) (fun hc9 => ?_)
  · skip
    refine OpsW.det (det_move rfl) rfl ?_
    refine OpsW.guard_no rfl rfl rfl ?_
    refine OpsW.guard_no rfl rfl rfl ?_
    refine OpsW.guard_no rfl rfl rfl ?_
    refine OpsW.det (det_pick rfl rfl) rfl ?_
    refine OpsW.det (det_move rfl) rfl ?_
    refine OpsW.guard_no rfl rfl rfl ?_
    refine OpsW.guard_no rfl rfl rfl ?_
    refine OpsW.guard_no rfl rfl rfl ?_
    refine OpsW.det (det_pick rfl rfl) rfl ?_
    refine OpsW.det (det_assign rfl) rfl ?_
    refine sNext ?_
    refine W.keep (F' := [(6, _)]) ⟨rfl, trivial⟩ ?_
    refine sRet ?_
    exact done1 Tryd.results16 (rv_tmp rfl) (congrArg Value.bool (by unfold longB; simp only [decide_eq_true_eq, decide_eq_false_iff_not] at *; rw [Bool.eq_iff_iff]; simp only [decide_eq_true_eq, Bool.or_eq_true, true_iff]; omega))
  · skip
    refine OpsW.det (det_move rfl) rfl ?_
    refine OpsW.guard_yes rfl rfl ?_
    refine OpsW.det (det_move rfl) rfl ?_
    refine OpsW.guard_yes rfl rfl ?_
    refine OpsW.det (det_len u22 rfl) rfl ?_
    refine OpsW.guard_yes rfl rfl ?_
    refine OpsW.test (det_gtr rfl rfl) rfl (fun hc13 => ?_) (fun hc13 => ?_)
    · skip
      refine OpsW.det (det_pick rfl rfl) rfl ?_
      refine OpsW.det (det_move rfl) rfl ?_
      refine OpsW.guard_no rfl rfl rfl ?_
      refine OpsW.guard_no rfl rfl rfl ?_
      refine OpsW.guard_no rfl rfl rfl ?_
      refine OpsW.det (det_pick rfl rfl) rfl ?_
      refine OpsW.det (det_assign rfl) rfl ?_
      refine sNext ?_
      refine W.keep (F' := [(6, _)]) ⟨rfl, trivial⟩ ?_
      refine sRet ?_
      exact done1 Tryd.results16 (rv_tmp rfl) (congrArg Value.bool (by unfold longB; simp only [decide_eq_true_eq, decide_eq_false_iff_not] at *; rw [Bool.eq_iff_iff]; simp only [decide_eq_true_eq, Bool.or_eq_true, true_iff]; omega))
    · skip
      refine OpsW.det (det_pick rfl rfl) rfl ?_
      refine OpsW.det (det_move rfl) rfl ?_
      refine OpsW.guard_yes rfl rfl ?_
      refine OpsW.det (det_move rfl) rfl ?_
      refine OpsW.guard_yes rfl rfl ?_
      refine OpsW.det (det_len u22 rfl) rfl ?_
      refine OpsW.guard_yes rfl rfl ?_
      refine OpsW.det (det_gtr rfl rfl) rfl ?_
      refine OpsW.det (det_pick rfl rfl) rfl ?_
      refine OpsW.det (det_assign rfl) rfl ?_
      refine sNext ?_
      refine W.keep (F' := [(6, _)]) ⟨rfl, trivial⟩ ?_
      refine sRet ?_
      exact done1 Tryd.results16 (rv_tmp rfl) (congrArg Value.bool (by unfold longB; simp only [decide_eq_true_eq, decide_eq_false_iff_not] at *; rw [Bool.eq_iff_iff]; simp only [decide_eq_true_eq, Bool.or_eq_true, true_iff]; omega))
theorem bit_ok {G' : Hp} {v : Value} {l : List Nat} {i bv : Nat} (hB : Bs G' v l) (hl : l.length ≤ 1000000000000) (hi : i ≤ 10000000000000) {w : World} (hG : Blocks ((bv, blk [v] 22) :: (G' ++ GH T)) w)  : Vm.Pure Tryd.prog 62 #[.int .i64 (i : Nat), .pointer (some ⟨bv, 0, none⟩)] w (.int .i64 (bitB l i : Nat)) := by
  obtain ⟨ad, cap, hvv⟩ := hB.shape
  refine pure_of_W (n := 23) (args := [.int .i64 (i : Nat), .pointer (some ⟨bv, 0, none⟩)]) Tryd.func62 rfl Tryd.ntmps62 (Nat.le_of_ble_eq_true rfl) hG ?_
  refine sStart ?_
  refine sSeq ?_
  subst hvv
  refine W.region ?_
  refine OpsW.det (det_assign rfl) rfl ?_
  refine sNext ?_
  refine W.keep (F' := [(0, _), (1, _)]) ⟨rfl, rfl, trivial⟩ ?_
  refine sSeq ?_
  refine sSeq ?_
  refine W.region ?_
  refine OpsW.det (det_move rfl) rfl ?_
  refine OpsW.det (det_loadC_ro tyc22 rfl (List.Mem.head _) rfl) rfl ?_
  refine OpsW.det (det_len u22 rfl) rfl ?_
  refine OpsW.det ((det_mul rfl rfl).to (v := .int .i64 ((8 * l.length : Nat) : Int)) (by rw [wrap_i64 (by omega)]; congr 1)) rfl ?_
  refine OpsW.det (det_geq rfl rfl) rfl ?_
  refine sNext ?_
  refine W.keep (F' := [(8, _), (0, _), (1, _)]) ⟨rfl, rfl, rfl, trivial⟩ ?_
  refine W.cond rfl (fun hc8 => ?_) (fun hc8 => ?_)
  · skip
    have hge : 8 * l.length ≤ i := by have h := hc8; simp only [decide_eq_true_eq] at h; omega
    refine sSeq ?_
    refine W.region ?_
    refine OpsW.det (det_assign rfl) rfl ?_
    refine sNext ?_
    refine W.keep (F' := [(3, _)]) ⟨rfl, trivial⟩ ?_
    refine sRet ?_
    exact done1 Tryd.results62 (rv_tmp rfl) (by rw [bitB_no hge]; rfl)
  · skip
    have hge : ¬ 8 * l.length ≤ i := by have h := hc8; simp only [decide_eq_false_iff_not] at h; omega
    have hlt : l.length - 1 - i / 8 < l.length := by omega
    obtain ⟨bk, o, cap', cs, e, fr, hv, hm, hcell⟩ := hB.at_ _ hlt
    simp only [Value.slice.injEq] at hv
    obtain ⟨rfl, _, rfl⟩ := hv
    refine sSkip ?_
    refine sSeq ?_
    refine W.region ?_
    refine OpsW.det (det_loadC_ro tyc22 rfl (List.Mem.head _) rfl) rfl ?_
    refine OpsW.det (det_loadC_ro tyc22 rfl (List.Mem.head _) rfl) rfl ?_
    refine OpsW.det (det_len u22 rfl) rfl ?_
    refine OpsW.det (det_subZ (c := ((l.length - 1 : Nat) : Int)) rfl rfl (by omega) (by omega)) rfl ?_
    refine OpsW.det (det_move rfl) rfl ?_
    refine OpsW.det (det_quoN (b := 8) rfl rfl (by decide) (by omega)) rfl ?_
    refine OpsW.det (det_subZ (c := ((l.length - 1 - i / 8 : Nat) : Int)) rfl rfl (by omega) (by omega)) rfl ?_
    refine OpsW.det (det_indexAddr_sl u22 sz5 rfl rfl ⟨by omega, by omega⟩) rfl ?_
    refine OpsW.det (det_loadC_ro ty5 rfl (List.Mem.tail _ (List.mem_append_left _ hm)) (show cs[o + ((l.length - 1 - i / 8 : Nat) : Int).toNat * 1]? = some (u8 l[l.length - 1 - i / 8]) by simpa using hcell)) rfl ?_
    refine OpsW.det (det_move rfl) rfl ?_
    refine OpsW.det (det_remN (b := 8) rfl rfl (by decide)) rfl ?_
    refine OpsW.det (det_shr8 rfl rfl (by omega)) rfl ?_
    refine OpsW.det (det_and8 rfl rfl (Nat.lt_of_le_of_lt (Nat.div_le_self _ _) (hB.small _ (List.getElem_mem hlt)))) rfl ?_
    refine OpsW.det ((det_conv u5 u3 rfl).to (v := .int .i64 ((l[l.length - 1 - i / 8] / 2 ^ (i % 8) % 2 : Nat) : Int)) (by rw [wrap_i64 (by omega)])) rfl ?_
    refine OpsW.det (det_assign rfl) rfl ?_
    refine sNext ?_
    refine W.keep (F' := [(3, _)]) ⟨rfl, trivial⟩ ?_
    refine sRet ?_
    exact done1 Tryd.results62 (rv_tmp rfl) (by rw [bitB_yes hge hlt])

end Go.Cu
