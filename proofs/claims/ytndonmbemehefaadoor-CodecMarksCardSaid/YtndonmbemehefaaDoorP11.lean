/-
  Part 11 of the joined texts of the curves' laws: CodecBack and CodecMarks: the walks. Conditions: what the document fixes of forms.
  Conditions: those that each theorem states.
-/
import Derived.Test.YtndonmbemehefaaDoorP10
import Derived.Test.YtndonmbemehefaaDoorP8
/- CodecBack and CodecMarks: the walks. Conditions: what the document fixes of forms. -/
namespace Go.Cw
open Go Go.Vm Go.RowKit Go.Proofs Go.Cu
attribute [local irreducible] W OpsW Det Fresh New Writes Vm.Pure Makes Changes ExternTo BuildTo ZeroTo FieldTo IndexTo BinTo SliceTo Vm.Enters
set_option linter.unusedVariables false
set_option linter.unusedSimpArgs false
variable {T : Nat → TypeId × Nat × Nat}

/-- Equal arrays of bytes are equal in Go. -/
theorem eq_bytes {P : Program} {d e : Nat} (he : P.plainKey e = true) (hu : P.underlying e = some (.int .u8)) {l : List Nat} (w : World) : ∀ (is : List Nat),
    (∀ i ∈ is, i < l.length) → (Op.eqItems (d + 1) e 1 (bcells l).toArray (bcells l).toArray is).run P w = .ok true w
  | [], _ => by simp [Op.eqItems]
  | i :: is, h => by
    have hi := h i (by simp)
    have h1 : (bcells l).toArray[i * 1]? = some (u8 l[i]) := by
      rw [Nat.mul_one, List.getElem?_toArray]; unfold bcells; rw [List.getElem?_map, List.getElem?_eq_getElem hi]; rfl
    have ih := eq_bytes (d := d) he hu w is (fun j hj => h j (by simp [hj]))
    simp only [Op.eqItems, Sem.run_bind, run_part_plain w he h1, Result.andThen_ok, u8, run_equalIn_int w d e .u8 .u8 _ _ hu]
    simp [ih]
theorem eqArr {n t : Nat} (hu : Tryd.prog.underlying t = some (.array n 5)) (hg : Tryd.prog.eqGuardType Tryd.prog.depth t = false) {l : List Nat} (hl : l.length = n) {x y : Operand} : BinTo Tryd.prog .eql t x y (.agg (bcells l).toArray) (.agg (bcells l).toArray) (.bool true) :=
  bin_of_eq hg fun w => by
    obtain ⟨i, hi⟩ : ∃ i, Tryd.prog.info? 5 = some i := by
      have := sz5
      unfold sizeIn at this
      cases h : Tryd.prog.info? 5 with
      | none => simp [h] at this
      | some i => exact ⟨i, rfl⟩
    rw [run_equalIn_array w 9999 _ _ hu hi, show Tryd.prog.cellsOf 5 = 1 by kernel_rfl]
    exact eq_bytes (show Tryd.prog.plainKey 5 = true by kernel_rfl) (show Tryd.prog.underlying 5 = some (.int .u8) by kernel_rfl) w _ fun i hi => by rw [hl]; simpa using hi
theorem Bs_arr {b n : Nat} {t : TypeId} {l : List Nat} (hn : l.length = n) (hs : ∀ c ∈ l, c < 256) : Bs [(b, blk (bcells l) t)] (.slice (some ⟨b, 0, none⟩) n n) l := by
  subst hn
  have := Bs.of (l := l) (b := b) (cap := l.length) (spare := []) (e := t) (fr := (0, 0)) hs (Nat.le_refl _)
  rw [List.append_nil] at this
  exact this
theorem bcl {l : List Nat} {n : Nat} (h : l.length = n) : (bcells l).length = n := by rw [bcells_length, h]
theorem x_at {l : List Nat} (h0 : 0 < l.length) : (bcells l)[0 + (0 : Int).toNat * 1]? = some (.int .u8 ((b0 l : Nat) : Int)) := by rw [bcells_cons h0]; rfl
theorem x_set {l l' : List Nat} {m : Nat} (h0 : 0 < l.length) (e : xl m l = l') : splice (0 + (0 : Int).toNat * 1) [.int .u8 (bitsOf .xor .u8 ((b0 l : Nat) : Int) ((m : Nat) : Int))] (bcells l) = some (bcells l') := by
  subst e
  rw [(xN_ok _ _).1, bcells_cons h0]
  exact splice_app (a := []) (new := [.int .u8 ((xN (b0 l) m : Nat) : Int)]) (c := u8 (b0 l) :: bcells l.tail) (Nat.succ_le_succ (Nat.zero_le _))
theorem rd_is1 {l : List Nat} {p : Cu.Pt} {e : Int} (h : Cu.rd1 l = (p, e)) : Value.tuple #[Cu.encP (Cu.rd1 l).1, .int .i64 (Cu.rd1 l).2] = .tuple #[Cu.encP p, .int .i64 e] := by rw [h]
theorem rd_is2 {l : List Nat} {p : Pt} {e : Int} (h : rd1 l = (p, e)) : Value.tuple #[encP (rd1 l).1, .int .i64 (rd1 l).2] = .tuple #[encP p, .int .i64 e] := by rw [h]
theorem rd_nm1 {l : List Nat} {R : Cu.Pt × Int} (h : R = Cu.rd1 l) : Value.tuple #[Cu.encP (Cu.rd1 l).1, .int .i64 (Cu.rd1 l).2] = .tuple #[Cu.encP R.1, .int .i64 R.2] := by rw [h]
theorem rd_nm2 {l : List Nat} {R : Pt × Int} (h : R = rd1 l) : Value.tuple #[encP (rd1 l).1, .int .i64 (rd1 l).2] = .tuple #[encP R.1, .int .i64 R.2] := by rw [h]
theorem ne_self {α : Type} [DecidableEq α] (p : α) : (!decide (p = p)) = false := by rw [decide_eq_true rfl]; rfl
theorem beq_is {a b : Int} (h : a = b) : (a == b) = true := by subst h; exact beq_self_eq_true _
theorem fin_1023 : ∀ a : Int, ∃ t : Nat, bitsOf .and .i64 a 1023 = ((t : Nat) : Int) := by
  intro a
  have h : (BitVec.ofInt IntKind.i64.bits a &&& BitVec.ofInt IntKind.i64.bits 1023).toNat < 1024 := by
    rw [BitVec.toNat_and]
    exact Nat.lt_of_le_of_lt Nat.and_le_right (by decide)
  refine ⟨(BitVec.ofInt IntKind.i64.bits a &&& BitVec.ofInt IntKind.i64.bits 1023).toNat, ?_⟩
  unfold bitsOf
  show IntKind.i64.wrap _ = _
  exact wrap_i64 (by omega)
theorem fin_7 : ∀ u : Fin 7, IntKind.u8.wrap (IntKind.u8.wrap (IntKind.i64.wrap (1 + ((u.val : Nat) : Int))) * 2 ^ (min (5 : Int).toNat IntKind.u8.bits)) = ((32 * (1 + u.val) : Nat) : Int) := by decide +kernel
theorem mk_val {t j : Nat} (h : j = 1 + t % 7) : Value.int .u8 (IntKind.u8.wrap (IntKind.u8.wrap (IntKind.i64.wrap (1 + ((t : Nat) : Int).tmod 7)) * 2 ^ (min (5 : Int).toNat IntKind.u8.bits))) = .int .u8 ((32 * j : Nat) : Int) := by
  have e : ((t : Nat) : Int).tmod 7 = ((t % 7 : Nat) : Int) := rfl
  rw [e, h]
  exact congrArg _ (fin_7 ⟨t % 7, Nat.mod_lt _ (by decide)⟩)
theorem en11b : Vm.Enters Tryd.prog 11 := Vm.Enters.of fun _ _ => by kernel_rfl
theorem hxl {l : List Nat} {n m : Nat} (h : l.length = n) (h0 : 0 < n) : (xl m l).length = n := by rw [xl_len (by omega), h]
attribute [local irreducible] sqrtF readF sqrt2 read2 inB Cu.inB rd1 Cu.rd1 markE onB Cu.onB formN1 fullN1 formN2 fullN2 pmul Cu.pmul gen Cu.gen pneg Cu.pneg wide xl

theorem en10 : Vm.Enters Tryd.prog 10 := Vm.Enters.of fun _ _ => by kernel_rfl
theorem en12 : Vm.Enters Tryd.prog 12 := Vm.Enters.of fun _ _ => by kernel_rfl
theorem en24 : Vm.Enters Tryd.prog 24 := Vm.Enters.of fun _ _ => by kernel_rfl
theorem en35 : Vm.Enters Tryd.prog 35 := Vm.Enters.of fun _ _ => by kernel_rfl
theorem en38 : Vm.Enters Tryd.prog 38 := Vm.Enters.of fun _ _ => by kernel_rfl
theorem en40 : Vm.Enters Tryd.prog 40 := Vm.Enters.of fun _ _ => by kernel_rfl
theorem en42 : Vm.Enters Tryd.prog 42 := Vm.Enters.of fun _ _ => by kernel_rfl
theorem en44 : Vm.Enters Tryd.prog 44 := Vm.Enters.of fun _ _ => by kernel_rfl
theorem en47 : Vm.Enters Tryd.prog 47 := Vm.Enters.of fun _ _ => by kernel_rfl
theorem en9 : Vm.Enters Tryd.prog 9 := Vm.Enters.of fun _ _ => by kernel_rfl
set_option maxHeartbeats 8000000 in
set_option maxRecDepth 100000 in
theorem CodecBack_ok {G' : Hp} {v : Value} {l : List Nat} (hB : Bs G' v l) (h09 : ∀ {w : World}, Blocks (GH T) w → Vm.Pure Tryd.prog 9 #[] w (.bool true)) {w : World} (hG : Blocks (G' ++ GH T) w)  : Vm.Pure Tryd.prog 6 #[v] w (.bool true) := by
  obtain ⟨ad, cap, hvv⟩ := hB.shape
  obtain ⟨n, hn⟩ : ∃ n, n = wide l := ⟨_, rfl⟩
  obtain ⟨p, hp⟩ : ∃ p, p = Cu.pmul Cu.gen n := ⟨_, rfl⟩
  obtain ⟨q, hq⟩ : ∃ q, q = pmul gen n := ⟨_, rfl⟩
  have hK := Cu.bk hp
  have hL := bk hq
  refine pure_of_W (n := 120) (args := [v]) Tryd.func6 rfl Tryd.ntmps6 (Nat.le_of_ble_eq_true rfl) hG ?_
  refine sStart ?_
  refine sSeq ?_
  subst hvv
  refine W.region ?_
  refine OpsW.det (det_assign rfl) rfl ?_
  refine sNext ?_
  refine W.keep (F' := [(0, _)]) ⟨rfl, trivial⟩ ?_
  refine sSeq ?_
  refine sSeq ?_
  refine W.region ?_
  refine OpsW.det (det_call en9 rfl (fun w hb ho => h09 (fun p hp => ho.look (List.mem_append_right _ hp)))) rfl ?_
  refine OpsW.det (det_not rfl) rfl ?_
  refine sNext ?_
  refine W.keep (F' := [(21, _), (0, _)]) ⟨rfl, rfl, trivial⟩ ?_
  refine W.cond_false rfl ?_
  refine sSkip ?_
  refine sSeq ?_
  refine sSeq ?_
  refine W.region ?_
  refine OpsW.det (det_move rfl) rfl ?_
  refine OpsW.det (det_call en10 rfl (fun w hb ho => long09_ok (fun p hp => ho.look (List.mem_append_right _ hp)))) rfl ?_
  refine sNext ?_
  refine W.keep (F' := [(23, _), (0, _)]) ⟨rfl, rfl, trivial⟩ ?_
  refine W.cond rfl (fun hc23 => ?_) (fun hc23 => ?_)
  · skip
    refine sSeq ?_
    refine W.region ?_
    refine OpsW.det (det_assign rfl) rfl ?_
    refine sNext ?_
    refine W.keep (F' := [(2, _)]) ⟨rfl, trivial⟩ ?_
    refine sRet ?_
    exact done1 Tryd.results6 (rv_tmp rfl) rfl
  · skip
    have hl : l.length ≤ 400 := by have h := hc23; simp only [decide_eq_false_iff_not] at h; omega
    refine sSkip ?_
    refine sSeq ?_
    refine W.region ?_
    refine OpsW.det (det_move rfl) rfl ?_
    refine OpsW.new (new_call en11b rfl (fun w hb ho => Copy_ok (G' := G') (l := l) hB (by omega) ho.blocks)) rfl fun p25 hp25 => ?_
    refine OpsW.norm (F' := [(25, .slice (some ⟨p25.1, 0, none⟩) l.length l.length), (24, _), (23, _), (0, _)]) (H' := [(p25.1, blk (bcells l ++ []) 5)]) rfl rfl ?_
    refine OpsW.det ((det_call en40 rfl (fun w hb ho => Wide_ok (G' := [(p25.1, blk (bcells l ++ []) 5)]) (l := l) (Bs.of hB.small (Nat.le_refl _)) (by omega) (blocks_cons (hb _ (by repeat (first | exact List.Mem.head _ | apply List.Mem.tail))) (fun p hp => ho.look (List.mem_append_right _ hp))))).to (v := encR n) (congrArg encR hn.symm)) rfl ?_
    refine OpsW.fresh (fr_alloc z67r) rfl fun b3 => ?_
    refine OpsW.storeW67 rfl rfl (Upd.here) ?_
    refine sNext ?_
    refine W.keep (F' := [(3, _)]) ⟨rfl, trivial⟩ ?_
    refine sSeq ?_
    refine W.draw mixed 4 [[], [], [0, 1], [], [0, 1, 2, 3]] (cl_lt (by decide)) ?_
    refine HeadR.start (cl_lt (by decide)) ?_
    refine HeadR.det rfl (fun β hβ => (det_call en41 rfl (fun w hb ho => Cu.Gen_ok (fun p hp => ho.look (List.mem_append_right _ hp))))) ?_
    refine HeadR.det rfl (fun β hβ => (det_loadW67 rfl (List.Mem.head _))) ?_
    refine HeadR.det rfl (fun β hβ => ((det_call en42 rfl (fun w hb ho => Cu.PMul_ok (fun p hp => ho.look (List.mem_append_right _ hp)))).to (v := Cu.encP p) (congrArg Cu.encP hp.symm))) ?_
    refine HeadR.fresh rfl (fun β hβ => (fr_alloc z31r).new) ?_
    refine HeadR.done ⟨by kernel_rfl, fun β hβ => ?_⟩
    refine OpsW.norm (F' := [(27, _), (28, _), (29, _), (4, .pointer (some ⟨(β 4).1, 0, none⟩)), (3, _)]) (H' := [(_, _), (_, _), (_, _)]) rfl rfl ?_
    generalize (β 4).1 = b4
    refine OpsW.store sz31 rfl rfl rfl rfl rfl (Upd.here) rfl ?_
    refine sNext ?_
    refine W.keep (F' := [(4, _), (3, _)]) ⟨rfl, rfl, trivial⟩ ?_
    refine sSeq ?_
    refine W.draw mixed 4 [[], [], [0, 1], [], [0, 1, 2, 3]] (cl_lt (by decide)) ?_
    refine HeadR.start (cl_lt (by decide)) ?_
    refine HeadR.det rfl (fun β hβ => (det_call en43 rfl (fun w hb ho => Gen_ok (fun p hp => ho.look (List.mem_append_right _ hp))))) ?_
    refine HeadR.det rfl (fun β hβ => (det_loadW67 rfl (List.Mem.tail _ (List.Mem.head _)))) ?_
    refine HeadR.det rfl (fun β hβ => ((det_call en44 rfl (fun w hb ho => PMul_ok (fun p hp => ho.look (List.mem_append_right _ hp)))).to (v := encP q) (congrArg encP hq.symm))) ?_
    refine HeadR.fresh rfl (fun β hβ => (fr_alloc z48r).new) ?_
    refine HeadR.done ⟨by kernel_rfl, fun β hβ => ?_⟩
    refine OpsW.norm (F' := [(30, _), (31, _), (32, _), (5, .pointer (some ⟨(β 5).1, 0, none⟩)), (4, _), (3, _)]) (H' := [(_, _), (_, _), (_, _), (_, _)]) rfl rfl ?_
    generalize (β 5).1 = b5
    refine OpsW.storeW48 rfl rfl (Upd.here) ?_
    refine sNext ?_
    refine W.keep (F' := [(5, _), (4, _), (3, _)]) ⟨rfl, rfl, rfl, trivial⟩ ?_
    refine sSeq ?_
    refine W.region ?_
    refine OpsW.det (det_loadA ty31 rfl (List.Mem.tail _ (List.Mem.head _)) rfl) rfl ?_
    refine OpsW.det ((det_call en34 rfl (fun w hb ho => Cu.CG1_ok (fun p hp => ho.look (List.mem_append_right _ hp)))).to (v := .agg (bcells (formN1 p)).toArray) (by rw [form1_N])) rfl ?_
    refine OpsW.fresh (fr_alloc z58) rfl fun b6 => ?_
    refine OpsW.store sz58 rfl rfl rfl (bcl (formN1_len _)) (bcells_all1 _) (Upd.here) (splice_all (by rw [bcl (formN1_len _), fst6_len (Nat.zero_le _)])) ?_
    refine sNext ?_
    refine W.keep (F' := [(6, _), (5, _), (4, _), (3, _)]) ⟨rfl, rfl, rfl, rfl, trivial⟩ ?_
    refine sSeq ?_
    refine W.region ?_
    refine OpsW.det (det_loadA ty31 rfl (List.Mem.tail _ (List.Mem.tail _ (List.Mem.head _))) rfl) rfl ?_
    refine OpsW.det ((det_call en35 rfl (fun w hb ho => CFull1_ok (fun p hp => ho.look (List.mem_append_right _ hp)))).to (v := .agg (bcells (fullN1 p)).toArray) (by rw [full1_N])) rfl ?_
    refine OpsW.fresh (fr_alloc z60) rfl fun b7 => ?_
    refine OpsW.store sz60 rfl rfl rfl (bcl (fullN1_len _)) (bcells_all1 _) (Upd.here) (splice_all (by rw [bcl (fullN1_len _), zer96_len])) ?_
    refine sNext ?_
    refine W.keep (F' := [(7, _), (6, _), (5, _), (4, _), (3, _)]) ⟨rfl, rfl, rfl, rfl, rfl, trivial⟩ ?_
    refine sSeq ?_
    refine W.region ?_
    refine OpsW.det (det_loadW48 rfl (List.Mem.tail _ (List.Mem.tail _ (List.Mem.head _)))) rfl ?_
    refine OpsW.det ((det_call en37 rfl (fun w hb ho => CG2_ok (fun p hp => ho.look (List.mem_append_right _ hp)))).to (v := .agg (bcells (formN2 q)).toArray) (by rw [form2_N])) rfl ?_
    refine OpsW.fresh (fr_alloc z60) rfl fun b8 => ?_
    refine OpsW.store sz60 rfl rfl rfl (bcl (formN2_len _)) (bcells_all1 _) (Upd.here) (splice_all (by rw [bcl (formN2_len _), zer96_len])) ?_
    refine sNext ?_
    refine W.keep (F' := [(8, _), (7, _), (6, _), (5, _), (4, _), (3, _)]) ⟨rfl, rfl, rfl, rfl, rfl, rfl, trivial⟩ ?_
    refine sSeq ?_
    refine W.region ?_
    refine OpsW.det (det_loadW48 rfl (List.Mem.tail _ (List.Mem.tail _ (List.Mem.tail _ (List.Mem.head _))))) rfl ?_
    refine OpsW.det ((det_call en38 rfl (fun w hb ho => CFull2_ok (fun p hp => ho.look (List.mem_append_right _ hp)))).to (v := .agg (bcells (fullN2 q)).toArray) (by rw [full2_N])) rfl ?_
    refine OpsW.fresh (fr_alloc z63) rfl fun b9 => ?_
    refine OpsW.store sz63 rfl rfl rfl (bcl (fullN2_len _)) (bcells_all1 _) (Upd.here) (splice_all (by rw [bcl (fullN2_len _), zer192_len])) ?_
    refine sNext ?_
    refine W.keep (F' := [(9, _), (8, _), (7, _), (6, _), (5, _), (4, _), (3, _)]) ⟨rfl, rfl, rfl, rfl, rfl, rfl, rfl, trivial⟩ ?_
    refine sSeq ?_
    refine W.region ?_
    refine OpsW.det ((det_sliceArr (lo := none) (hi := none) (l := 0) (h := 48) u58 sz5 rfl rfl rfl (by decide) (by decide)).to (v := .slice (some ⟨b6, 0, none⟩) 48 48) rfl) rfl ?_
    refine OpsW.det ((det_call en12 rfl (fun w hb ho => ReadG1_ok (G' := [(b6, blk (bcells (formN1 p)) 58)]) (l := formN1 p) (Bs_arr (formN1_len _) (formN1_small _)) (by rw [(formN1_len _)]; decide) (blocks_cons (hb _ (by repeat (first | exact List.Mem.head _ | apply List.Mem.tail))) (fun p hp => ho.look (List.mem_append_right _ hp))))).to (v := .tuple #[Cu.encP p, .int .i64 0]) (rd_is1 (hK.b1))) rfl ?_
    refine OpsW.det (det_move rfl) rfl ?_
    refine OpsW.det (det_extract rfl rfl) rfl ?_
    refine OpsW.det (det_extract rfl rfl) rfl ?_
    refine OpsW.fresh (fr_alloc z31r) rfl fun b10 => ?_
    refine OpsW.store sz31 rfl rfl rfl rfl rfl (Upd.here) rfl ?_
    refine OpsW.det (det_assign rfl) rfl ?_
    refine sNext ?_
    refine W.keep (F' := [(11, _), (10, _), (9, _), (8, _), (7, _), (6, _), (5, _), (4, _), (3, _)]) ⟨rfl, rfl, rfl, rfl, rfl, rfl, rfl, rfl, rfl, trivial⟩ ?_
    refine sSeq ?_
    refine W.region ?_
    refine OpsW.det ((det_sliceArr (lo := none) (hi := none) (l := 0) (h := 96) u60 sz5 rfl rfl rfl (by decide) (by decide)).to (v := .slice (some ⟨b7, 0, none⟩) 96 96) rfl) rfl ?_
    refine OpsW.det ((det_call en12 rfl (fun w hb ho => ReadG1_ok (G' := [(b7, blk (bcells (fullN1 p)) 60)]) (l := fullN1 p) (Bs_arr (fullN1_len _) (fullN1_small _)) (by rw [(fullN1_len _)]; decide) (blocks_cons (hb _ (by repeat (first | exact List.Mem.head _ | apply List.Mem.tail))) (fun p hp => ho.look (List.mem_append_right _ hp))))).to (v := .tuple #[Cu.encP p, .int .i64 0]) (rd_is1 (hK.b2))) rfl ?_
    refine OpsW.det (det_move rfl) rfl ?_
    refine OpsW.det (det_extract rfl rfl) rfl ?_
    refine OpsW.det (det_extract rfl rfl) rfl ?_
    refine OpsW.fresh (fr_alloc z31r) rfl fun b12 => ?_
    refine OpsW.store sz31 rfl rfl rfl rfl rfl (Upd.here) rfl ?_
    refine OpsW.det (det_assign rfl) rfl ?_
    refine sNext ?_
    refine W.keep (F' := [(13, _), (12, _), (11, _), (10, _), (9, _), (8, _), (6, _), (5, _), (4, _), (3, _)]) ⟨rfl, rfl, rfl, rfl, rfl, rfl, rfl, rfl, rfl, rfl, trivial⟩ ?_
    refine sSeq ?_
    refine W.region ?_
    refine OpsW.det ((det_sliceArr (lo := none) (hi := none) (l := 0) (h := 96) u60 sz5 rfl rfl rfl (by decide) (by decide)).to (v := .slice (some ⟨b8, 0, none⟩) 96 96) rfl) rfl ?_
    refine OpsW.det ((det_call en24 rfl (fun w hb ho => ReadG2_ok (G' := [(b8, blk (bcells (formN2 q)) 60)]) (l := formN2 q) (Bs_arr (formN2_len _) (formN2_small _)) (by rw [(formN2_len _)]; decide) (blocks_cons (hb _ (by repeat (first | exact List.Mem.head _ | apply List.Mem.tail))) (fun p hp => ho.look (List.mem_append_right _ hp))))).to (v := .tuple #[encP q, .int .i64 0]) (rd_is2 (hL.b1))) rfl ?_
    refine OpsW.det (det_move rfl) rfl ?_
    refine OpsW.det (det_extract rfl rfl) rfl ?_
    refine OpsW.det (det_extract rfl rfl) rfl ?_
    refine OpsW.fresh (fr_alloc z48r) rfl fun b14 => ?_
    refine OpsW.storeW48 rfl rfl (Upd.here) ?_
    refine OpsW.det (det_assign rfl) rfl ?_
    refine sNext ?_
    refine W.keep (F' := [(15, _), (14, _), (13, _), (12, _), (11, _), (10, _), (9, _), (8, _), (6, _), (5, _), (4, _), (3, _)]) ⟨rfl, rfl, rfl, rfl, rfl, rfl, rfl, rfl, rfl, rfl, rfl, rfl, trivial⟩ ?_
    refine sSeq ?_
    refine W.region ?_
    refine OpsW.det ((det_sliceArr (lo := none) (hi := none) (l := 0) (h := 192) u63 sz5 rfl rfl rfl (by decide) (by decide)).to (v := .slice (some ⟨b9, 0, none⟩) 192 192) rfl) rfl ?_
    refine OpsW.det ((det_call en24 rfl (fun w hb ho => ReadG2_ok (G' := [(b9, blk (bcells (fullN2 q)) 63)]) (l := fullN2 q) (Bs_arr (fullN2_len _) (fullN2_small _)) (by rw [(fullN2_len _)]; decide) (blocks_cons (hb _ (by repeat (first | exact List.Mem.head _ | apply List.Mem.tail))) (fun p hp => ho.look (List.mem_append_right _ hp))))).to (v := .tuple #[encP q, .int .i64 0]) (rd_is2 (hL.b2))) rfl ?_
    refine OpsW.det (det_move rfl) rfl ?_
    refine OpsW.det (det_extract rfl rfl) rfl ?_
    refine OpsW.det (det_extract rfl rfl) rfl ?_
    refine OpsW.fresh (fr_alloc z48r) rfl fun b16 => ?_
    refine OpsW.storeW48 rfl rfl (Upd.here) ?_
    refine OpsW.det (det_assign rfl) rfl ?_
    refine sNext ?_
    refine W.keep (F' := [(17, _), (16, _), (15, _), (14, _), (13, _), (12, _), (11, _), (10, _), (8, _), (6, _), (5, _), (4, _), (3, _)]) ⟨rfl, rfl, rfl, rfl, rfl, rfl, rfl, rfl, rfl, rfl, rfl, rfl, rfl, trivial⟩ ?_
    refine sSeq ?_
    refine sSeq ?_
    refine W.region ?_
    refine OpsW.det (det_move rfl) rfl ?_
    refine OpsW.det (Det.to (det_neq rfl rfl) (congrArg Value.bool (rfl))) rfl ?_
    refine OpsW.det (det_move rfl) rfl ?_
    refine OpsW.guard_yes rfl rfl ?_
    refine OpsW.det (det_move rfl) rfl ?_
    refine OpsW.guard_yes rfl rfl ?_
    refine OpsW.det (Det.to (det_neq rfl rfl) (congrArg Value.bool (rfl))) rfl ?_
    refine OpsW.det (det_pick rfl rfl) rfl ?_
    refine OpsW.det (det_move rfl) rfl ?_
    refine OpsW.guard_yes rfl rfl ?_
    refine OpsW.det (det_move rfl) rfl ?_
    refine OpsW.guard_yes rfl rfl ?_
    refine OpsW.det (Det.to (det_neq rfl rfl) (congrArg Value.bool (rfl))) rfl ?_
    refine OpsW.det (det_pick rfl rfl) rfl ?_
    refine OpsW.det (det_move rfl) rfl ?_
    refine OpsW.guard_yes rfl rfl ?_
    refine OpsW.det (det_move rfl) rfl ?_
    refine OpsW.guard_yes rfl rfl ?_
    refine OpsW.det (Det.to (det_neq rfl rfl) (congrArg Value.bool (rfl))) rfl ?_
    refine OpsW.det (det_pick rfl rfl) rfl ?_
    refine OpsW.det (det_move rfl) rfl ?_
    refine OpsW.guard_yes rfl rfl ?_
    refine OpsW.det (det_loadA ty31 rfl (List.Mem.tail _ (List.Mem.tail _ (List.Mem.tail _ (List.Mem.head _)))) rfl) rfl ?_
    refine OpsW.guard_yes rfl rfl ?_
    refine OpsW.det (det_loadA ty31 rfl (List.Mem.tail _ (List.Mem.tail _ (List.Mem.tail _ (List.Mem.tail _ (List.Mem.tail _ (List.Mem.tail _ (List.Mem.tail _ (List.Mem.tail _ (List.Mem.tail _ (List.Mem.head _)))))))))) rfl) rfl ?_
    refine OpsW.guard_yes rfl rfl ?_
    refine OpsW.det (Det.to (det_neq31 rfl rfl) (congrArg Value.bool (ne_self _))) rfl ?_
    refine OpsW.det (det_pick rfl rfl) rfl ?_
    refine OpsW.det (det_move rfl) rfl ?_
    refine OpsW.guard_yes rfl rfl ?_
    refine OpsW.det (det_loadA ty31 rfl (List.Mem.tail _ (List.Mem.tail _ (List.Mem.head _))) rfl) rfl ?_
    refine OpsW.guard_yes rfl rfl ?_
    refine OpsW.det (det_loadA ty31 rfl (List.Mem.tail _ (List.Mem.tail _ (List.Mem.tail _ (List.Mem.tail _ (List.Mem.tail _ (List.Mem.tail _ (List.Mem.tail _ (List.Mem.tail _ (List.Mem.tail _ (List.Mem.head _)))))))))) rfl) rfl ?_
    refine OpsW.guard_yes rfl rfl ?_
    refine OpsW.det (Det.to (det_neq31 rfl rfl) (congrArg Value.bool (ne_self _))) rfl ?_
    refine OpsW.det (det_pick rfl rfl) rfl ?_
    refine OpsW.det (det_move rfl) rfl ?_
    refine OpsW.guard_yes rfl rfl ?_
    refine OpsW.det (det_loadW48 rfl (List.Mem.tail _ (List.Mem.head _))) rfl ?_
    refine OpsW.guard_yes rfl rfl ?_
    refine OpsW.det (det_loadW48 rfl (List.Mem.tail _ (List.Mem.tail _ (List.Mem.tail _ (List.Mem.tail _ (List.Mem.tail _ (List.Mem.tail _ (List.Mem.tail _ (List.Mem.tail _ (List.Mem.head _)))))))))) rfl ?_
    refine OpsW.guard_yes rfl rfl ?_
    refine OpsW.det (Det.to (det_neq48 rfl rfl) (congrArg Value.bool (ne_self _))) rfl ?_
    refine OpsW.det (det_pick rfl rfl) rfl ?_
    refine OpsW.det (det_move rfl) rfl ?_
    refine OpsW.guard_yes rfl rfl ?_
    refine OpsW.det (det_loadW48 rfl (List.Mem.head _)) rfl ?_
    refine OpsW.guard_yes rfl rfl ?_
    refine OpsW.det (det_loadW48 rfl (List.Mem.tail _ (List.Mem.tail _ (List.Mem.tail _ (List.Mem.tail _ (List.Mem.tail _ (List.Mem.tail _ (List.Mem.tail _ (List.Mem.tail _ (List.Mem.head _)))))))))) rfl ?_
    refine OpsW.guard_yes rfl rfl ?_
    refine OpsW.det (Det.to (det_neq48 rfl rfl) (congrArg Value.bool (ne_self _))) rfl ?_
    refine OpsW.det (det_pick rfl rfl) rfl ?_
    refine sNext ?_
    refine W.keep (F' := [(94, _), (8, _), (6, _), (5, _), (4, _), (3, _)]) ⟨rfl, rfl, rfl, rfl, rfl, rfl, trivial⟩ ?_
    refine W.cond_false rfl ?_
    refine sSkip ?_
    refine sSeq ?_
    refine W.region ?_
    refine OpsW.det (det_loadA ty31 rfl (List.Mem.tail _ (List.Mem.tail _ (List.Mem.tail _ (List.Mem.tail _ (List.Mem.tail _ (List.Mem.tail _ (List.Mem.tail _ (List.Mem.tail _ (List.Mem.tail _ (List.Mem.head _)))))))))) rfl) rfl ?_
    refine OpsW.det (det_call en45 rfl (fun w hb ho => Cu.PNeg_ok (fun p hp => ho.look (List.mem_append_right _ hp)))) rfl ?_
    refine OpsW.det ((det_call en34 rfl (fun w hb ho => Cu.CG1_ok (fun p hp => ho.look (List.mem_append_right _ hp)))).to (v := .agg (bcells (formN1 (Cu.pneg p))).toArray) (by rw [form1_N])) rfl ?_
    refine OpsW.fresh (fr_alloc z58) rfl fun b18 => ?_
    refine OpsW.store sz58 rfl rfl rfl (bcl (formN1_len _)) (bcells_all1 _) (Upd.here) (splice_all (by rw [bcl (formN1_len _), fst6_len (Nat.zero_le _)])) ?_
    refine sNext ?_
    refine W.keep (F' := [(18, _), (8, _), (6, _), (5, _), (3, _)]) ⟨rfl, rfl, rfl, rfl, rfl, trivial⟩ ?_
    refine sSeq ?_
    refine W.region ?_
    refine OpsW.det (det_loadW48 rfl (List.Mem.tail _ (List.Mem.tail _ (List.Mem.tail _ (List.Mem.tail _ (List.Mem.tail _ (List.Mem.tail _ (List.Mem.tail _ (List.Mem.tail _ (List.Mem.tail _ (List.Mem.head _))))))))))) rfl ?_
    refine OpsW.det (det_call en46 rfl (fun w hb ho => PNeg_ok (fun p hp => ho.look (List.mem_append_right _ hp)))) rfl ?_
    refine OpsW.det ((det_call en37 rfl (fun w hb ho => CG2_ok (fun p hp => ho.look (List.mem_append_right _ hp)))).to (v := .agg (bcells (formN2 (pneg q))).toArray) (by rw [form2_N])) rfl ?_
    refine OpsW.fresh (fr_alloc z60) rfl fun b19 => ?_
    refine OpsW.store sz60 rfl rfl rfl (bcl (formN2_len _)) (bcells_all1 _) (Upd.here) (splice_all (by rw [bcl (formN2_len _), zer96_len])) ?_
    refine sNext ?_
    refine W.keep (F' := [(19, _), (18, _), (8, _), (6, _), (3, _)]) ⟨rfl, rfl, rfl, rfl, rfl, trivial⟩ ?_
    refine sSeq ?_
    refine sSeq ?_
    refine W.region ?_
    refine OpsW.det (det_loadW67 rfl (List.Mem.tail _ (List.Mem.tail _ (List.Mem.tail _ (List.Mem.tail _ (List.Mem.tail _ (List.Mem.tail _ (List.Mem.tail _ (List.Mem.tail _ (List.Mem.tail _ (List.Mem.tail _ (List.Mem.tail _ (List.Mem.tail _ (List.Mem.head _)))))))))))))) rfl ?_
    refine OpsW.det (det_call en47 rfl (fun w hb ho => Cu.RZero_ok (fun p hp => ho.look (List.mem_append_right _ hp)))) rfl ?_
    refine OpsW.det (det_not rfl) rfl ?_
    refine sNext ?_
    refine W.keep (F' := [(103, _), (19, _), (18, _), (8, _), (6, _)]) ⟨rfl, rfl, rfl, rfl, rfl, trivial⟩ ?_
    refine sCut (σ := Unit) (fun _s => [(19, .pointer (some ⟨b19, 0, none⟩)), (18, .pointer (some ⟨b18, 0, none⟩)), (8, .pointer (some ⟨b8, 0, none⟩)), (6, .pointer (some ⟨b6, 0, none⟩))]) (fun _s => [(b19, blk (bcells (formN2 q)) 60), (b18, blk (bcells (formN1 p)) 58), (b8, blk (bcells (formN2 q)) 60), (b6, blk (bcells (formN1 p)) 58)]) (fun _s => True) ?_ ?_
    · skip
      refine W.cond rfl (fun hc103 => ?_) (fun hc103 => ?_)
      · skip
        have hn0 : n ≠ 0 := by have h := hc103; simpa using h
        refine sSeq ?_
        refine W.region ?_
        refine OpsW.det (det_indexAddr_arr u58 sz5 rfl rfl ⟨by decide, by decide⟩) rfl ?_
        refine OpsW.det (det_loadC ty5 rfl (List.Mem.tail _ (List.Mem.head _)) (x_at (by rw [formN1_len]; decide))) rfl ?_
        refine OpsW.det (det_xor rfl rfl) rfl ?_
        refine OpsW.det (det_indexAddr_arr u58 sz5 rfl rfl ⟨by decide, by decide⟩) rfl ?_
        refine OpsW.store sz5 rfl rfl rfl rfl rfl (Upd.there (Upd.here)) (x_set (m := 32) (by rw [formN1_len]; decide) (hK.b4 hn0)) ?_
        refine sNext ?_
        refine W.keep (F' := [(19, _), (18, _), (8, _), (6, _)]) ⟨rfl, rfl, rfl, rfl, trivial⟩ ?_
        refine W.region ?_
        refine OpsW.det (det_indexAddr_arr u60 sz5 rfl rfl ⟨by decide, by decide⟩) rfl ?_
        refine OpsW.det (det_loadC ty5 rfl (List.Mem.head _) (x_at (by rw [formN2_len]; decide))) rfl ?_
        refine OpsW.det (det_xor rfl rfl) rfl ?_
        refine OpsW.det (det_indexAddr_arr u60 sz5 rfl rfl ⟨by decide, by decide⟩) rfl ?_
        refine OpsW.store sz5 rfl rfl rfl rfl rfl (Upd.here) (x_set (m := 32) (by rw [formN2_len]; decide) (hL.b4 hn0)) ?_
        refine sLast ?_
        refine cutOk () trivial ⟨rfl, rfl, rfl, rfl, trivial⟩ ?_
        repeat (first | exact List.Sublist.refl _ | exact List.nil_sublist _ | refine List.Sublist.cons_cons _ ?_ | refine List.Sublist.cons _ ?_)
      · skip
        have hn0 : n = 0 := by have h := hc103; simpa using h
        rw [hK.b3 hn0, hL.b3 hn0]
        refine sSkip0 ?_
        refine cutOk () trivial ⟨rfl, rfl, rfl, rfl, trivial⟩ ?_
        repeat (first | exact List.Sublist.refl _ | exact List.nil_sublist _ | refine List.Sublist.cons_cons _ ?_ | refine List.Sublist.cons _ ?_)
    · skip
      rintro - -
      refine sSeq ?_
      refine W.region ?_
      refine OpsW.det (det_loadA ty58 rfl (List.Mem.tail _ (List.Mem.head _)) (show cut 0 48 (bcells (formN1 p)) = some (bcells (formN1 p)) from cut_all (bcl (formN1_len _)))) rfl ?_
      refine OpsW.det (det_loadA ty58 rfl (List.Mem.tail _ (List.Mem.tail _ (List.Mem.tail _ (List.Mem.head _)))) (show cut 0 48 (bcells (formN1 p)) = some (bcells (formN1 p)) from cut_all (bcl (formN1_len _)))) rfl ?_
      refine OpsW.det (Det.to (det_binTo rfl rfl (eqArr u58 (by kernel_rfl) (formN1_len p))) (congrArg Value.bool (rfl))) rfl ?_
      refine OpsW.det (det_move rfl) rfl ?_
      refine OpsW.guard_yes rfl rfl ?_
      refine OpsW.det (det_loadA ty60 rfl (List.Mem.head _) (show cut 0 96 (bcells (formN2 q)) = some (bcells (formN2 q)) from cut_all (bcl (formN2_len _)))) rfl ?_
      refine OpsW.guard_yes rfl rfl ?_
      refine OpsW.det (det_loadA ty60 rfl (List.Mem.tail _ (List.Mem.tail _ (List.Mem.head _))) (show cut 0 96 (bcells (formN2 q)) = some (bcells (formN2 q)) from cut_all (bcl (formN2_len _)))) rfl ?_
      refine OpsW.guard_yes rfl rfl ?_
      refine OpsW.det (Det.to (det_binTo rfl rfl (eqArr u60 (by kernel_rfl) (formN2_len q))) (congrArg Value.bool (rfl))) rfl ?_
      refine OpsW.det (det_pick rfl rfl) rfl ?_
      refine OpsW.det (det_assign rfl) rfl ?_
      refine sNext ?_
      refine W.keep (F' := [(2, _)]) ⟨rfl, trivial⟩ ?_
      refine sRet ?_
      exact done1 Tryd.results6 (rv_tmp rfl) rfl
set_option maxHeartbeats 8000000 in
set_option maxRecDepth 100000 in
theorem CodecMarks_ok {G' : Hp} {v : Value} {l : List Nat} {mark : Int} (hB : Bs G' v l) (h09 : ∀ {w : World}, Blocks (GH T) w → Vm.Pure Tryd.prog 9 #[] w (.bool true)) {w : World} (hG : Blocks (G' ++ GH T) w)  : Vm.Pure Tryd.prog 7 #[v, .int .i64 mark] w (.bool true) := by
  obtain ⟨ad, cap, hvv⟩ := hB.shape
  obtain ⟨n0, hn0⟩ : ∃ n, n = wide l := ⟨_, rfl⟩
  refine pure_of_W (n := 123) (args := [v, .int .i64 mark]) Tryd.func7 rfl Tryd.ntmps7 (Nat.le_of_ble_eq_true rfl) hG ?_
  refine sStart ?_
  refine sSeq ?_
  subst hvv
  refine W.region ?_
  refine OpsW.det (det_assign rfl) rfl ?_
  refine sNext ?_
  refine W.keep (F' := [(0, _), (1, _)]) ⟨rfl, rfl, trivial⟩ ?_
  refine sSeq ?_
  refine sSeq ?_
  refine W.region ?_
  refine OpsW.det (det_call en9 rfl (fun w hb ho => h09 (fun p hp => ho.look (List.mem_append_right _ hp)))) rfl ?_
  refine OpsW.det (det_not rfl) rfl ?_
  refine sNext ?_
  refine W.keep (F' := [(22, _), (0, _), (1, _)]) ⟨rfl, rfl, rfl, trivial⟩ ?_
  refine W.cond_false rfl ?_
  refine sSkip ?_
  refine sSeq ?_
  refine sSeq ?_
  refine W.region ?_
  refine OpsW.det (det_move rfl) rfl ?_
  refine OpsW.det (det_call en10 rfl (fun w hb ho => long09_ok (fun p hp => ho.look (List.mem_append_right _ hp)))) rfl ?_
  refine sNext ?_
  refine W.keep (F' := [(24, _), (0, _), (1, _)]) ⟨rfl, rfl, rfl, trivial⟩ ?_
  refine W.cond rfl (fun hc24 => ?_) (fun hc24 => ?_)
  · skip
    refine sSeq ?_
    refine W.region ?_
    refine OpsW.det (det_assign rfl) rfl ?_
    refine sNext ?_
    refine W.keep (F' := [(4, _)]) ⟨rfl, trivial⟩ ?_
    refine sRet ?_
    exact done1 Tryd.results7 (rv_tmp rfl) rfl
  · skip
    have hl : l.length ≤ 400 := by have h := hc24; simp only [decide_eq_false_iff_not] at h; omega
    refine sSkip ?_
    refine sSeq ?_
    refine W.region ?_
    refine OpsW.det (det_move rfl) rfl ?_
    refine OpsW.new (new_call en11b rfl (fun w hb ho => Copy_ok (G' := G') (l := l) hB (by omega) ho.blocks)) rfl fun p26 hp26 => ?_
    refine OpsW.norm (F' := [(26, .slice (some ⟨p26.1, 0, none⟩) l.length l.length), (25, _), (24, _), (0, _), (1, _)]) (H' := [(p26.1, blk (bcells l ++ []) 5)]) rfl rfl ?_
    refine OpsW.det ((det_call en40 rfl (fun w hb ho => Wide_ok (G' := [(p26.1, blk (bcells l ++ []) 5)]) (l := l) (Bs.of hB.small (Nat.le_refl _)) (by omega) (blocks_cons (hb _ (by repeat (first | exact List.Mem.head _ | apply List.Mem.tail))) (fun p hp => ho.look (List.mem_append_right _ hp))))).to (v := encR n0) (congrArg encR hn0.symm)) rfl ?_
    refine OpsW.fresh (fr_alloc z67r) rfl fun b5 => ?_
    refine OpsW.storeW67 rfl rfl (Upd.here) ?_
    refine sNext ?_
    refine W.keep (F' := [(5, _), (1, _)]) ⟨rfl, rfl, trivial⟩ ?_
    refine sSeq ?_
    refine sSeq ?_
    refine W.region ?_
    refine OpsW.det (det_loadW67 rfl (List.Mem.head _)) rfl ?_
    refine OpsW.det (det_call en47 rfl (fun w hb ho => Cu.RZero_ok (fun p hp => ho.look (List.mem_append_right _ hp)))) rfl ?_
    refine sNext ?_
    refine W.keep (F' := [(29, _), (5, _), (1, _)]) ⟨rfl, rfl, rfl, trivial⟩ ?_
    refine sCut (σ := Fs) (fun n => [(5, .pointer (some ⟨b5, 0, none⟩)), (1, .int .i64 mark)]) (fun n => [(b5, blk (cellsR n) 67)]) (fun n => n ≠ 0) ?_ ?_
    · skip
      refine W.cond rfl (fun hc29 => ?_) (fun hc29 => ?_)
      · skip
        refine W.region ?_
        refine OpsW.det (det_call en48 rfl (fun w hb ho => Cu.ROf_ok (n := 3) (by decide) (fun p hp => ho.look (List.mem_append_right _ hp)))) rfl ?_
        refine OpsW.storeW67 rfl rfl (Upd.here) ?_
        refine sLast ?_
        refine cutOk (Zp.of 3) (by decide +kernel) ⟨rfl, rfl, trivial⟩ ?_
        repeat (first | exact List.Sublist.refl _ | exact List.nil_sublist _ | refine List.Sublist.cons_cons _ ?_ | refine List.Sublist.cons _ ?_)
      · skip
        refine sSkip0 ?_
        refine cutOk n0 (by have h := hc29; simpa using h) ⟨rfl, rfl, trivial⟩ ?_
        repeat (first | exact List.Sublist.refl _ | exact List.nil_sublist _ | refine List.Sublist.cons_cons _ ?_ | refine List.Sublist.cons _ ?_)
    · skip
      rintro n hn
      refine W.norm (F' := [(5, .pointer (some ⟨b5, 0, none⟩)), (1, .int .i64 mark)]) (H' := [(b5, blk (cellsR n) 67)]) rfl rfl ?_
      refine sSeq ?_
      obtain ⟨t, ht⟩ := fin_1023 mark
      obtain ⟨j, hj⟩ : ∃ j, j = 1 + t % 7 := ⟨_, rfl⟩
      have hj0 : 0 < j := by omega
      have hj8 : j < 8 := by omega
      obtain ⟨p, hp⟩ : ∃ p, p = Cu.pmul Cu.gen n := ⟨_, rfl⟩
      obtain ⟨q, hq⟩ : ∃ q, q = pmul gen n := ⟨_, rfl⟩
      have hK := Cu.bk hp
      have hL := bk hq
      refine W.region ?_
      refine OpsW.det (det_move rfl) rfl ?_
      refine OpsW.det ((det_and rfl rfl).to (v := .int .i64 ((t : Nat) : Int)) (congrArg (Value.int .i64) ht)) rfl ?_
      refine OpsW.det (det_rem rfl rfl (by decide)) rfl ?_
      refine OpsW.det (det_add rfl rfl) rfl ?_
      refine OpsW.det (det_conv u3 u5 rfl) rfl ?_
      refine OpsW.det ((det_shl rfl rfl (by decide)).to (v := .int .u8 ((32 * j : Nat) : Int)) (mk_val hj)) rfl ?_
      refine OpsW.det (det_assign rfl) rfl ?_
      refine sNext ?_
      refine W.keep (F' := [(6, _), (5, _)]) ⟨rfl, rfl, trivial⟩ ?_
      refine sSeq ?_
      refine W.draw mixed 4 [[], [], [0, 1], [], [0, 1, 2, 3]] (cl_lt (by decide)) ?_
      refine HeadR.start (cl_lt (by decide)) ?_
      refine HeadR.det rfl (fun β hβ => (det_call en41 rfl (fun w hb ho => Cu.Gen_ok (fun p hp => ho.look (List.mem_append_right _ hp))))) ?_
      refine HeadR.det rfl (fun β hβ => (det_loadW67 rfl (List.Mem.head _))) ?_
      refine HeadR.det rfl (fun β hβ => ((det_call en42 rfl (fun w hb ho => Cu.PMul_ok (fun p hp => ho.look (List.mem_append_right _ hp)))).to (v := Cu.encP p) (congrArg Cu.encP hp.symm))) ?_
      refine HeadR.fresh rfl (fun β hβ => (fr_alloc z31r).new) ?_
      refine HeadR.done ⟨by kernel_rfl, fun β hβ => ?_⟩
      refine OpsW.norm (F' := [(37, _), (38, _), (39, _), (7, .pointer (some ⟨(β 7).1, 0, none⟩)), (6, _), (5, _)]) (H' := [(_, _), (_, _)]) rfl rfl ?_
      generalize (β 7).1 = b7
      refine OpsW.store sz31 rfl rfl rfl rfl rfl (Upd.here) rfl ?_
      refine sNext ?_
      refine W.keep (F' := [(7, _), (6, _), (5, _)]) ⟨rfl, rfl, rfl, trivial⟩ ?_
      refine sSeq ?_
      refine W.draw mixed 4 [[], [], [0, 1], [], [0, 1, 2, 3]] (cl_lt (by decide)) ?_
      refine HeadR.start (cl_lt (by decide)) ?_
      refine HeadR.det rfl (fun β hβ => (det_call en43 rfl (fun w hb ho => Gen_ok (fun p hp => ho.look (List.mem_append_right _ hp))))) ?_
      refine HeadR.det rfl (fun β hβ => (det_loadW67 rfl (List.Mem.tail _ (List.Mem.head _)))) ?_
      refine HeadR.det rfl (fun β hβ => ((det_call en44 rfl (fun w hb ho => PMul_ok (fun p hp => ho.look (List.mem_append_right _ hp)))).to (v := encP q) (congrArg encP hq.symm))) ?_
      refine HeadR.fresh rfl (fun β hβ => (fr_alloc z48r).new) ?_
      refine HeadR.done ⟨by kernel_rfl, fun β hβ => ?_⟩
      refine OpsW.norm (F' := [(40, _), (41, _), (42, _), (8, .pointer (some ⟨(β 8).1, 0, none⟩)), (7, _), (6, _), (5, _)]) (H' := [(_, _), (_, _), (_, _)]) rfl rfl ?_
      generalize (β 8).1 = b8
      refine OpsW.storeW48 rfl rfl (Upd.here) ?_
      refine sNext ?_
      refine W.keep (F' := [(8, _), (7, _), (6, _)]) ⟨rfl, rfl, rfl, trivial⟩ ?_
      refine sSeq ?_
      refine W.region ?_
      refine OpsW.det (det_loadA ty31 rfl (List.Mem.tail _ (List.Mem.head _)) rfl) rfl ?_
      refine OpsW.det ((det_call en34 rfl (fun w hb ho => Cu.CG1_ok (fun p hp => ho.look (List.mem_append_right _ hp)))).to (v := .agg (bcells (formN1 p)).toArray) (by rw [form1_N])) rfl ?_
      refine OpsW.fresh (fr_alloc z58) rfl fun b9 => ?_
      refine OpsW.store sz58 rfl rfl rfl (bcl (formN1_len _)) (bcells_all1 _) (Upd.here) (splice_all (by rw [bcl (formN1_len _), fst6_len (Nat.zero_le _)])) ?_
      refine sNext ?_
      refine W.keep (F' := [(9, _), (8, _), (7, _), (6, _)]) ⟨rfl, rfl, rfl, rfl, trivial⟩ ?_
      refine sSeq ?_
      refine W.region ?_
      refine OpsW.det (det_loadA ty31 rfl (List.Mem.tail _ (List.Mem.tail _ (List.Mem.head _))) rfl) rfl ?_
      refine OpsW.det ((det_call en35 rfl (fun w hb ho => CFull1_ok (fun p hp => ho.look (List.mem_append_right _ hp)))).to (v := .agg (bcells (fullN1 p)).toArray) (by rw [full1_N])) rfl ?_
      refine OpsW.fresh (fr_alloc z60) rfl fun b10 => ?_
      refine OpsW.store sz60 rfl rfl rfl (bcl (fullN1_len _)) (bcells_all1 _) (Upd.here) (splice_all (by rw [bcl (fullN1_len _), zer96_len])) ?_
      refine sNext ?_
      refine W.keep (F' := [(10, _), (9, _), (8, _), (7, _), (6, _)]) ⟨rfl, rfl, rfl, rfl, rfl, trivial⟩ ?_
      refine sSeq ?_
      refine W.region ?_
      refine OpsW.det (det_loadW48 rfl (List.Mem.tail _ (List.Mem.tail _ (List.Mem.head _)))) rfl ?_
      refine OpsW.det ((det_call en37 rfl (fun w hb ho => CG2_ok (fun p hp => ho.look (List.mem_append_right _ hp)))).to (v := .agg (bcells (formN2 q)).toArray) (by rw [form2_N])) rfl ?_
      refine OpsW.fresh (fr_alloc z60) rfl fun b11 => ?_
      refine OpsW.store sz60 rfl rfl rfl (bcl (formN2_len _)) (bcells_all1 _) (Upd.here) (splice_all (by rw [bcl (formN2_len _), zer96_len])) ?_
      refine sNext ?_
      refine W.keep (F' := [(11, _), (10, _), (9, _), (8, _), (7, _), (6, _)]) ⟨rfl, rfl, rfl, rfl, rfl, rfl, trivial⟩ ?_
      refine sSeq ?_
      refine W.region ?_
      refine OpsW.det (det_loadW48 rfl (List.Mem.tail _ (List.Mem.tail _ (List.Mem.tail _ (List.Mem.head _))))) rfl ?_
      refine OpsW.det ((det_call en38 rfl (fun w hb ho => CFull2_ok (fun p hp => ho.look (List.mem_append_right _ hp)))).to (v := .agg (bcells (fullN2 q)).toArray) (by rw [full2_N])) rfl ?_
      refine OpsW.fresh (fr_alloc z63) rfl fun b12 => ?_
      refine OpsW.store sz63 rfl rfl rfl (bcl (fullN2_len _)) (bcells_all1 _) (Upd.here) (splice_all (by rw [bcl (fullN2_len _), zer192_len])) ?_
      refine sNext ?_
      refine W.keep (F' := [(12, _), (11, _), (10, _), (9, _), (8, _), (7, _), (6, _)]) ⟨rfl, rfl, rfl, rfl, rfl, rfl, rfl, trivial⟩ ?_
      refine sSeq ?_
      refine W.region ?_
      refine OpsW.det (det_indexAddr_arr u58 sz5 rfl rfl ⟨by decide, by decide⟩) rfl ?_
      refine OpsW.det (det_loadC ty5 rfl (List.Mem.tail _ (List.Mem.tail _ (List.Mem.tail _ (List.Mem.head _)))) (x_at (by rw [formN1_len]; decide))) rfl ?_
      refine OpsW.det (det_move rfl) rfl ?_
      refine OpsW.det (det_xor rfl rfl) rfl ?_
      refine OpsW.det (det_indexAddr_arr u58 sz5 rfl rfl ⟨by decide, by decide⟩) rfl ?_
      refine OpsW.store sz5 rfl rfl rfl rfl rfl (Upd.there (Upd.there (Upd.there (Upd.here)))) (x_set (m := 32 * j) (by rw [formN1_len]; decide) rfl) ?_
      refine sNext ?_
      refine W.keep (F' := [(12, _), (11, _), (10, _), (9, _), (8, _), (7, _), (6, _)]) ⟨rfl, rfl, rfl, rfl, rfl, rfl, rfl, trivial⟩ ?_
      refine sSeq ?_
      refine W.region ?_
      refine OpsW.det (det_indexAddr_arr u60 sz5 rfl rfl ⟨by decide, by decide⟩) rfl ?_
      refine OpsW.det (det_loadC ty5 rfl (List.Mem.tail _ (List.Mem.tail _ (List.Mem.head _))) (x_at (by rw [fullN1_len]; decide))) rfl ?_
      refine OpsW.det (det_move rfl) rfl ?_
      refine OpsW.det (det_xor rfl rfl) rfl ?_
      refine OpsW.det (det_indexAddr_arr u60 sz5 rfl rfl ⟨by decide, by decide⟩) rfl ?_
      refine OpsW.store sz5 rfl rfl rfl rfl rfl (Upd.there (Upd.there (Upd.here))) (x_set (m := 32 * j) (by rw [fullN1_len]; decide) rfl) ?_
      refine sNext ?_
      refine W.keep (F' := [(12, _), (11, _), (10, _), (9, _), (8, _), (7, _), (6, _)]) ⟨rfl, rfl, rfl, rfl, rfl, rfl, rfl, trivial⟩ ?_
      refine sSeq ?_
      refine W.region ?_
      refine OpsW.det (det_indexAddr_arr u60 sz5 rfl rfl ⟨by decide, by decide⟩) rfl ?_
      refine OpsW.det (det_loadC ty5 rfl (List.Mem.tail _ (List.Mem.head _)) (x_at (by rw [formN2_len]; decide))) rfl ?_
      refine OpsW.det (det_move rfl) rfl ?_
      refine OpsW.det (det_xor rfl rfl) rfl ?_
      refine OpsW.det (det_indexAddr_arr u60 sz5 rfl rfl ⟨by decide, by decide⟩) rfl ?_
      refine OpsW.store sz5 rfl rfl rfl rfl rfl (Upd.there (Upd.here)) (x_set (m := 32 * j) (by rw [formN2_len]; decide) rfl) ?_
      refine sNext ?_
      refine W.keep (F' := [(12, _), (11, _), (10, _), (9, _), (8, _), (7, _), (6, _)]) ⟨rfl, rfl, rfl, rfl, rfl, rfl, rfl, trivial⟩ ?_
      refine sSeq ?_
      refine W.region ?_
      refine OpsW.det (det_indexAddr_arr u63 sz5 rfl rfl ⟨by decide, by decide⟩) rfl ?_
      refine OpsW.det (det_loadC ty5 rfl (List.Mem.head _) (x_at (by rw [fullN2_len]; decide))) rfl ?_
      refine OpsW.det (det_move rfl) rfl ?_
      refine OpsW.det (det_xor rfl rfl) rfl ?_
      refine OpsW.det (det_indexAddr_arr u63 sz5 rfl rfl ⟨by decide, by decide⟩) rfl ?_
      refine OpsW.store sz5 rfl rfl rfl rfl rfl (Upd.here) (x_set (m := 32 * j) (by rw [fullN2_len]; decide) rfl) ?_
      refine sNext ?_
      refine W.keep (F' := [(12, _), (11, _), (10, _), (9, _), (8, _), (7, _), (6, _)]) ⟨rfl, rfl, rfl, rfl, rfl, rfl, rfl, trivial⟩ ?_
      refine sSeq ?_
      obtain ⟨X, hX⟩ : ∃ X, X = Cu.rd1 (xl (32 * j) (formN1 p)) := ⟨_, rfl⟩
      refine W.region ?_
      refine OpsW.det ((det_sliceArr (lo := none) (hi := none) (l := 0) (h := 48) u58 sz5 rfl rfl rfl (by decide) (by decide)).to (v := .slice (some ⟨b9, 0, none⟩) 48 48) rfl) rfl ?_
      refine OpsW.det ((det_call en12 rfl (fun w hb ho => ReadG1_ok (G' := [(b9, blk (bcells (xl (32 * j) (formN1 p))) 58)]) (l := xl (32 * j) (formN1 p)) (Bs_arr (hxl (formN1_len p) (by decide)) (xl_small (formN1_small _))) (by rw [(hxl (formN1_len p) (by decide))]; decide) (blocks_cons (hb _ (by repeat (first | exact List.Mem.head _ | apply List.Mem.tail))) (fun p hp => ho.look (List.mem_append_right _ hp))))).to (v := .tuple #[Cu.encP X.1, .int .i64 X.2]) (rd_nm1 hX)) rfl ?_
      refine OpsW.det (det_move rfl) rfl ?_
      refine OpsW.det (det_extract rfl rfl) rfl ?_
      refine OpsW.det (det_extract rfl rfl) rfl ?_
      refine OpsW.fresh (fr_alloc z31r) rfl fun b13 => ?_
      refine OpsW.store sz31 rfl rfl rfl rfl rfl (Upd.here) rfl ?_
      refine OpsW.det (det_assign rfl) rfl ?_
      refine sNext ?_
      refine W.keep (F' := [(14, _), (13, _), (12, _), (11, _), (10, _), (8, _), (7, _), (6, _)]) ⟨rfl, rfl, rfl, rfl, rfl, rfl, rfl, rfl, trivial⟩ ?_
      refine sSeq ?_
      refine W.region ?_
      refine OpsW.det ((det_sliceArr (lo := none) (hi := none) (l := 0) (h := 96) u60 sz5 rfl rfl rfl (by decide) (by decide)).to (v := .slice (some ⟨b10, 0, none⟩) 96 96) rfl) rfl ?_
      refine OpsW.det ((det_call en12 rfl (fun w hb ho => ReadG1_ok (G' := [(b10, blk (bcells (xl (32 * j) (fullN1 p))) 60)]) (l := xl (32 * j) (fullN1 p)) (Bs_arr (hxl (fullN1_len p) (by decide)) (xl_small (fullN1_small _))) (by rw [(hxl (fullN1_len p) (by decide))]; decide) (blocks_cons (hb _ (by repeat (first | exact List.Mem.head _ | apply List.Mem.tail))) (fun p hp => ho.look (List.mem_append_right _ hp))))).to (v := .tuple #[Cu.encP (0, 0), .int .i64 11]) (rd_is1 (hK.m2 hn j hj0 hj8))) rfl ?_
      refine OpsW.det (det_move rfl) rfl ?_
      refine OpsW.det (det_extract rfl rfl) rfl ?_
      refine OpsW.det (det_extract rfl rfl) rfl ?_
      refine OpsW.fresh (fr_alloc z31r) rfl fun b15 => ?_
      refine OpsW.store sz31 rfl rfl rfl rfl rfl (Upd.here) rfl ?_
      refine OpsW.det (det_assign rfl) rfl ?_
      refine sNext ?_
      refine W.keep (F' := [(16, _), (14, _), (13, _), (12, _), (11, _), (8, _), (7, _), (6, _)]) ⟨rfl, rfl, rfl, rfl, rfl, rfl, rfl, rfl, trivial⟩ ?_
      refine sSeq ?_
      obtain ⟨Y, hY⟩ : ∃ Y, Y = rd1 (xl (32 * j) (formN2 q)) := ⟨_, rfl⟩
      refine W.region ?_
      refine OpsW.det ((det_sliceArr (lo := none) (hi := none) (l := 0) (h := 96) u60 sz5 rfl rfl rfl (by decide) (by decide)).to (v := .slice (some ⟨b11, 0, none⟩) 96 96) rfl) rfl ?_
      refine OpsW.det ((det_call en24 rfl (fun w hb ho => ReadG2_ok (G' := [(b11, blk (bcells (xl (32 * j) (formN2 q))) 60)]) (l := xl (32 * j) (formN2 q)) (Bs_arr (hxl (formN2_len q) (by decide)) (xl_small (formN2_small _))) (by rw [(hxl (formN2_len q) (by decide))]; decide) (blocks_cons (hb _ (by repeat (first | exact List.Mem.head _ | apply List.Mem.tail))) (fun p hp => ho.look (List.mem_append_right _ hp))))).to (v := .tuple #[encP Y.1, .int .i64 Y.2]) (rd_nm2 hY)) rfl ?_
      refine OpsW.det (det_move rfl) rfl ?_
      refine OpsW.det (det_extract rfl rfl) rfl ?_
      refine OpsW.det (det_extract rfl rfl) rfl ?_
      refine OpsW.fresh (fr_alloc z48r) rfl fun b17 => ?_
      refine OpsW.storeW48 rfl rfl (Upd.here) ?_
      refine OpsW.det (det_assign rfl) rfl ?_
      refine sNext ?_
      refine W.keep (F' := [(18, _), (17, _), (16, _), (14, _), (13, _), (12, _), (8, _), (7, _), (6, _)]) ⟨rfl, rfl, rfl, rfl, rfl, rfl, rfl, rfl, rfl, trivial⟩ ?_
      refine sSeq ?_
      refine W.region ?_
      refine OpsW.det ((det_sliceArr (lo := none) (hi := none) (l := 0) (h := 192) u63 sz5 rfl rfl rfl (by decide) (by decide)).to (v := .slice (some ⟨b12, 0, none⟩) 192 192) rfl) rfl ?_
      refine OpsW.det ((det_call en24 rfl (fun w hb ho => ReadG2_ok (G' := [(b12, blk (bcells (xl (32 * j) (fullN2 q))) 63)]) (l := xl (32 * j) (fullN2 q)) (Bs_arr (hxl (fullN2_len q) (by decide)) (xl_small (fullN2_small _))) (by rw [(hxl (fullN2_len q) (by decide))]; decide) (blocks_cons (hb _ (by repeat (first | exact List.Mem.head _ | apply List.Mem.tail))) (fun p hp => ho.look (List.mem_append_right _ hp))))).to (v := .tuple #[encP (0, 0), .int .i64 11]) (rd_is2 (hL.m2 hn j hj0 hj8))) rfl ?_
      refine OpsW.det (det_move rfl) rfl ?_
      refine OpsW.det (det_extract rfl rfl) rfl ?_
      refine OpsW.det (det_extract rfl rfl) rfl ?_
      refine OpsW.fresh (fr_alloc z48r) rfl fun b19 => ?_
      refine OpsW.storeW48 rfl rfl (Upd.here) ?_
      refine OpsW.det (det_assign rfl) rfl ?_
      refine sNext ?_
      refine W.keep (F' := [(20, _), (18, _), (17, _), (16, _), (14, _), (13, _), (8, _), (7, _), (6, _)]) ⟨rfl, rfl, rfl, rfl, rfl, rfl, rfl, rfl, rfl, trivial⟩ ?_
      refine sSeq ?_
      refine sSeq ?_
      refine W.region ?_
      refine OpsW.det (det_move rfl) rfl ?_
      refine OpsW.det (Det.to (det_neq rfl rfl) (congrArg Value.bool (rfl))) rfl ?_
      refine OpsW.det (det_move rfl) rfl ?_
      refine OpsW.guard_yes rfl rfl ?_
      refine OpsW.det (det_move rfl) rfl ?_
      refine OpsW.guard_yes rfl rfl ?_
      refine OpsW.det (Det.to (det_neq rfl rfl) (congrArg Value.bool (rfl))) rfl ?_
      refine OpsW.det (det_pick rfl rfl) rfl ?_
      refine sNext ?_
      refine W.keep (F' := [(96, _), (18, _), (17, _), (14, _), (13, _), (8, _), (7, _), (6, _)]) ⟨rfl, rfl, rfl, rfl, rfl, rfl, rfl, rfl, trivial⟩ ?_
      refine W.cond_false rfl ?_
      refine sSkip ?_
      refine sSeq ?_
      refine sSeq ?_
      refine W.region ?_
      refine OpsW.det (det_move rfl) rfl ?_
      refine OpsW.det (det_eql rfl rfl) rfl ?_
      refine sNext ?_
      refine W.keep (F' := [(98, _), (18, _), (17, _), (14, _), (13, _), (8, _), (7, _)]) ⟨rfl, rfl, rfl, rfl, rfl, rfl, rfl, trivial⟩ ?_
      refine W.cond rfl (fun hc98 => ?_) (fun hc98 => ?_)
      · skip
        have hj1 : j = 1 := by have h := hc98; simp at h; omega
        have hX1 : X = (Cu.pneg p, 0) := by rw [hX, hj1]; exact hK.m3 hn
        have hY1 : Y = (pneg q, 0) := by rw [hY, hj1]; exact hL.m3 hn
        refine sSeq ?_
        refine W.draw mixed 19 [[], [0], [0, 1], [0, 1, 2], [0, 1, 2, 3], [0, 1, 2, 3, 4], [0, 1, 2, 3, 4, 5], [0, 1, 2, 3, 4, 5, 6], [0, 1, 2, 3, 4, 5, 6], [0, 1, 2, 3, 4, 5, 6, 8], [0, 1, 2, 3, 4, 5, 6, 7, 8, 9], [0, 1, 2, 3, 4, 5, 6, 7, 8, 9, 10], [0, 1, 2, 3, 4, 5, 6, 7, 8, 9, 10, 11], [0, 1, 2, 3, 4, 5, 6, 7, 8, 9, 10, 11, 12], [0, 1, 2, 3, 4, 5, 6, 7, 8, 9, 10, 11, 12], [0, 1, 2, 3, 4, 5, 6, 7, 8, 9, 10, 11, 12, 14], [0, 1, 2, 3, 4, 5, 6, 7, 8, 9, 10, 11, 12, 13, 14, 15], [0, 1, 2, 3, 4, 5, 6, 7, 8, 9, 10, 11, 12, 13, 14, 15, 16], [0, 1, 2, 3, 4, 5, 6, 7, 8, 9, 10, 11, 12, 13, 14, 15, 16, 17]] (cl_lt (by decide)) ?_
        refine HeadR.start (cl_lt (by decide)) ?_
        refine HeadR.det rfl (fun β hβ => (det_move rfl)) ?_
        refine HeadR.det rfl (fun β hβ => (Det.to (det_eql rfl rfl) (congrArg Value.bool (beq_is (by rw [hX1]))))) ?_
        refine HeadR.det rfl (fun β hβ => (det_move rfl)) ?_
        refine HeadR.yes rfl rfl (fun _ _ => rfl) (fun β hβ => (det_move rfl)) ?_
        refine HeadR.yes rfl rfl (fun _ _ => rfl) (fun β hβ => (Det.to (det_eql rfl rfl) (congrArg Value.bool (beq_is (by rw [hY1]))))) ?_
        refine HeadR.det rfl (fun β hβ => (det_pick rfl rfl)) ?_
        refine HeadR.det rfl (fun β hβ => (det_move rfl)) ?_
        refine HeadR.yes rfl rfl (fun _ _ => rfl) (fun β hβ => (det_loadA ty31 rfl (List.Mem.tail _ (List.Mem.tail _ (List.Mem.tail _ (List.Mem.head _)))) rfl)) ?_
        refine HeadR.yes rfl rfl (fun _ _ => rfl) (fun β hβ => (det_loadA ty31 rfl (List.Mem.tail _ (List.Mem.tail _ (List.Mem.tail _ (List.Mem.tail _ (List.Mem.tail _ (List.Mem.tail _ (List.Mem.tail _ (List.Mem.tail _ (List.Mem.tail _ (List.Mem.head _)))))))))) rfl)) ?_
        refine HeadR.yes rfl rfl (fun _ _ => rfl) (fun β hβ => (det_call en45 rfl (fun w hb ho => Cu.PNeg_ok (fun p hp => ho.look (List.mem_append_right _ hp))))) ?_
        refine HeadR.yes rfl rfl (fun _ _ => rfl) (fun β hβ => (Det.to (det_eql31 rfl rfl) (congrArg Value.bool (decide_eq_true (by rw [hX1]))))) ?_
        refine HeadR.det rfl (fun β hβ => (det_pick rfl rfl)) ?_
        refine HeadR.det rfl (fun β hβ => (det_move rfl)) ?_
        refine HeadR.yes rfl rfl (fun _ _ => rfl) (fun β hβ => (det_loadW48 rfl (List.Mem.tail _ (List.Mem.head _)))) ?_
        refine HeadR.yes rfl rfl (fun _ _ => rfl) (fun β hβ => (det_loadW48 rfl (List.Mem.tail _ (List.Mem.tail _ (List.Mem.tail _ (List.Mem.tail _ (List.Mem.tail _ (List.Mem.tail _ (List.Mem.tail _ (List.Mem.tail _ (List.Mem.head _))))))))))) ?_
        refine HeadR.yes rfl rfl (fun _ _ => rfl) (fun β hβ => (det_call en46 rfl (fun w hb ho => PNeg_ok (fun p hp => ho.look (List.mem_append_right _ hp))))) ?_
        refine HeadR.yes rfl rfl (fun _ _ => rfl) (fun β hβ => (Det.to (det_eql48 rfl rfl) (congrArg Value.bool (decide_eq_true (by rw [hY1]))))) ?_
        refine HeadR.det rfl (fun β hβ => (det_pick rfl rfl)) ?_
        refine HeadR.det rfl (fun β hβ => (det_assign rfl)) ?_
        refine HeadR.done ⟨by kernel_rfl, fun β hβ => ?_⟩
        refine OpsW.norm (F' := [(99, _), (100, _), (101, _), (102, _), (103, _), (104, _), (105, _), (106, _), (107, _), (108, _), (109, _), (110, _), (111, _), (112, _), (113, _), (114, _), (115, _), (116, _), (4, _), (98, _), (18, _), (17, _), (14, _), (13, _), (8, _), (7, _)]) (H' := [(_, _), (_, _), (_, _), (_, _), (_, _), (_, _), (_, _), (_, _), (_, _), (_, _), (_, _)]) rfl rfl ?_
        refine sNext ?_
        refine W.keep (F' := [(4, _)]) ⟨rfl, trivial⟩ ?_
        refine sRet ?_
        exact done1 Tryd.results7 (rv_tmp rfl) rfl
      · skip
        have hj1 : 1 < j := by have h := hc98; simp at h; omega
        have hX1 : X = ((0, 0), 11) := by rw [hX]; exact hK.m1 hn j hj1 hj8
        have hY1 : Y = ((0, 0), 11) := by rw [hY]; exact hL.m1 hn j hj1 hj8
        refine sSkip ?_
        refine sSeq ?_
        refine W.region ?_
        refine OpsW.det (det_move rfl) rfl ?_
        refine OpsW.det (Det.to (det_eql rfl rfl) (congrArg Value.bool (beq_is (by rw [hX1])))) rfl ?_
        refine OpsW.det (det_move rfl) rfl ?_
        refine OpsW.guard_yes rfl rfl ?_
        refine OpsW.det (det_move rfl) rfl ?_
        refine OpsW.guard_yes rfl rfl ?_
        refine OpsW.det (Det.to (det_eql rfl rfl) (congrArg Value.bool (beq_is (by rw [hY1])))) rfl ?_
        refine OpsW.det (det_pick rfl rfl) rfl ?_
        refine OpsW.det (det_assign rfl) rfl ?_
        refine sNext ?_
        refine W.keep (F' := [(4, _)]) ⟨rfl, trivial⟩ ?_
        refine sRet ?_
        exact done1 Tryd.results7 (rv_tmp rfl) rfl

end Go.Cw
