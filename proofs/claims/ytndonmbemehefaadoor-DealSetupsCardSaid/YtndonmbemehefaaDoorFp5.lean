/-
  The first group's field: numbers read: the walks. Conditions: none.
-/
import Derived.Test.YtndonmbemehefaaDoorG1b
namespace Go.Cu
open Go Go.Vm Go.RowKit Go.Proofs 
attribute [local irreducible] W OpsW Det Fresh New Writes Vm.Pure Makes Changes ExternTo BuildTo ZeroTo FieldTo IndexTo BinTo SliceTo Vm.Enters
set_option linter.unusedVariables false
set_option linter.unusedSimpArgs false
variable {T : Nat → TypeId × Nat × Nat}

/-- The number that bytes are, the highest first. -/
def beN (l : List Nat) : Nat := l.foldl (fun x c => x * 256 + c) 0
theorem beN_from (l : List Nat) : ∀ a : Nat, l.foldl (fun x c => x * 256 + c) a = a * 256 ^ l.length + beN l := by
  induction l with
  | nil => intro a; simp [beN]
  | cons c l ih =>
    intro a
    unfold beN
    simp only [List.foldl_cons, List.length_cons]
    rw [ih, ih (0 * 256 + c), Nat.pow_succ, Nat.add_mul, Nat.add_mul]
    simp only [Nat.zero_mul, Nat.zero_add]
    rw [Nat.mul_assoc a 256, Nat.mul_comm 256, Nat.add_assoc]
theorem beN_app (a b : List Nat) : beN (a ++ b) = beN a * 256 ^ b.length + beN b := by
  unfold beN; rw [List.foldl_append, beN_from]; rfl
theorem beN_lt {l : List Nat} (h : ∀ c ∈ l, c < 256) : beN l < 256 ^ l.length := by
  induction l with
  | nil => simp [beN]
  | cons c l ih =>
    have h1 := ih fun x hx => h x (List.mem_cons_of_mem _ hx)
    have h2 := h c List.mem_cons_self
    have h3 := beN_from l c
    show beN (c :: l) < _
    unfold beN
    simp only [List.foldl_cons, Nat.zero_mul, Nat.zero_add, List.length_cons]
    rw [h3, Nat.pow_succ]
    have : (c + 1) * 256 ^ l.length ≤ 256 * 256 ^ l.length := Nat.mul_le_mul_right _ h2
    rw [Nat.add_mul] at this
    omega
theorem beN_word {l : List Nat} {i : Nat} (hl : l.length = 48) (hs : ∀ c ∈ l, c < 256) (hi : i < 6) : beN ((l.drop (8 * i)).take 8) = lim (beN l) (5 - i) := by
  have e : l = l.take (8 * i) ++ ((l.drop (8 * i)).take 8 ++ (l.drop (8 * i)).drop 8) := by rw [List.take_append_drop, List.take_append_drop]
  have hb := beN_lt (l := (l.drop (8 * i)).take 8) fun c hc => hs c (List.mem_of_mem_drop (List.mem_of_mem_take hc))
  have hc := beN_lt (l := (l.drop (8 * i)).drop 8) fun c hc => hs c (List.mem_of_mem_drop (List.mem_of_mem_drop hc))
  rw [show ((l.drop (8 * i)).take 8).length = 8 by simp; omega] at hb
  rw [show ((l.drop (8 * i)).drop 8).length = 8 * (5 - i) by simp; omega] at hc
  have hN : beN l = beN (l.take (8 * i)) * 256 ^ (8 + 8 * (5 - i)) + (beN ((l.drop (8 * i)).take 8) * 256 ^ (8 * (5 - i)) + beN ((l.drop (8 * i)).drop 8)) := by
    conv => lhs; rw [e]
    rw [beN_app, beN_app, List.length_append, show ((l.drop (8 * i)).take 8).length = 8 by simp; omega, show ((l.drop (8 * i)).drop 8).length = 8 * (5 - i) by simp; omega]
  unfold lim
  rw [show 18446744073709551616 ^ (5 - i) = 256 ^ (8 * (5 - i)) by rw [Nat.pow_mul]]
  generalize beN ((l.drop (8 * i)).take 8) = b at *
  generalize beN ((l.drop (8 * i)).drop 8) = c at *
  generalize beN (l.take (8 * i)) = a at *
  rw [hN, Nat.pow_add, show a * (256 ^ 8 * 256 ^ (8 * (5 - i))) + (b * 256 ^ (8 * (5 - i)) + c) = c + 256 ^ (8 * (5 - i)) * (b + 256 ^ 8 * a) by
    rw [Nat.mul_add, Nat.mul_comm _ b, show 256 ^ (8 * (5 - i)) * (256 ^ 8 * a) = a * (256 ^ 8 * 256 ^ (8 * (5 - i))) by ac_rfl]; omega, Nat.add_mul_div_left _ _ (Nat.pow_pos (by decide)), Nat.div_eq_of_lt hc, Nat.zero_add, show (18446744073709551616 : Nat) = 256 ^ 8 from rfl, Nat.add_mul_mod_self_left, Nat.mod_eq_of_lt hb]
theorem beN_step {l : List Nat} {i : Nat} (h : i < l.length) : beN (l.take (i + 1)) = beN (l.take i) * 256 + l[i] := by
  unfold beN
  rw [List.take_succ_eq_append_getElem h, List.foldl_append]
  rfl
theorem beN_top {l : List Nat} {i : Nat} (hs : ∀ c ∈ l, c < 256) (hi : i < 8) : beN (l.take i) < 72057594037927936 := by
  have h := beN_lt (l := l.take i) fun c hc => hs c (List.mem_of_mem_take hc)
  have h2 : 256 ^ (l.take i).length ≤ 256 ^ 7 := Nat.pow_le_pow_right (by decide) (by simp; omega)
  exact Nat.lt_of_lt_of_le h h2
section
variable {P : Program} {K : List Nat} {G : Hp} {w0 : World} {F : Fr} {H : Hp} {ty : TypeId} {pos : String} {after : Array Edge} {x y : Operand} {xt yt : TypeId} {d : Option Tmp} {g : Option (Nat × Bool)}
theorem det_orN {a b : Nat} (hx : ev F x = some (.int .u64 ((a * 2 ^ 8 % 18446744073709551616 : Nat) : Int))) (hy : ev F y = some (.int .u64 b)) (ha : a < 72057594037927936) (hb : b < 256) : Det P K G w0 ⟨d, .binOp .or xt x y yt, ty, pos, after, g⟩ F H (.int .u64 ((a * 256 + b : Nat) : Int)) :=
  (det_or hx hy).to (by
    have e : a * 2 ^ 8 % 18446744073709551616 = 2 ^ 8 * a := by rw [Nat.mod_eq_of_lt (by omega)]; omega
    rw [e, (Go.Vm.bits_nat (by omega) (by omega)).2, ← Nat.two_pow_add_eq_or_of_lt (i := 8) (by omega)]
    congr 2
    omega)
end

theorem u26 : Tryd.prog.underlying 26 = some (.int .u64) := by kernel_rfl
theorem get_ok {G' : Hp} {b o len cap : Nat} {cs : List Value} {e : TypeId} {fr : Nat × Nat} {l : List Nat} (hl : l.length = 8) (hs : ∀ c ∈ l, c < 256) (hlen : 8 ≤ len ∧ len ≤ cap) (hm : (b, Obj.cells cs.toArray e fr) ∈ G') (hcs : ∀ i (h : i < l.length), cs[o + i]? = some (u8 l[i])) {w : World} (hG : Blocks (G' ++ GH T) w)  : Vm.Pure Tryd.prog 54 #[.slice (some ⟨b, o, none⟩) len cap, .int .i64 8] w (u64 (beN l)) := by
  refine pure_of_W (n := 23) (args := [.slice (some ⟨b, o, none⟩) len cap, .int .i64 8]) Tryd.func54 rfl Tryd.ntmps54 (Nat.le_of_ble_eq_true rfl) hG ?_
  refine sStart ?_
  refine sSeq ?_
  refine W.region ?_
  refine OpsW.det (det_assign rfl) rfl ?_
  refine sNext ?_
  refine W.keep (F' := [(0, _), (1, _)]) ⟨rfl, rfl, trivial⟩ ?_
  refine sSeq ?_
  refine W.region ?_
  refine OpsW.det (det_assign rfl) rfl ?_
  refine sNext ?_
  refine sSeq ?_
  refine sSeq ?_
  refine W.region ?_
  refine OpsW.det (det_move rfl) rfl ?_
  refine OpsW.det (det_move rfl) rfl ?_
  refine OpsW.det ((det_slice (lo := none) (hi := some (.tmp 9)) (l := 0) (h := 8) u22 sz5 rfl rfl ⟨_, rfl⟩ (by decide) (by omega) (by omega)).to (v := .slice (some ⟨b, o, none⟩) 8 cap) (by rw [if_neg (by omega), Nat.zero_mul, Nat.add_zero]; rfl)) rfl ?_
  refine OpsW.det (det_len u22 rfl) rfl ?_
  refine OpsW.det (det_move rfl) rfl ?_
  refine sNext ?_
  refine W.keep (F' := [(12, _), (11, _), (10, _), (5, _)]) ⟨rfl, rfl, rfl, rfl, trivial⟩ ?_
  refine sBlock ?_
  refine sLoop (σ := Nat) (fun i => [(12, .int .i64 (i : Nat)), (11, .int .i64 8), (10, .slice (some ⟨b, o, none⟩) 8 cap), (5, u64 (beN (l.take i)))]) (fun i => []) (fun i => i ≤ l.length) (fun i => l.length - i) 0 (Nat.zero_le _) ⟨rfl, rfl, rfl, rfl, trivial⟩ (List.Sublist.refl _) ?_
  intro i hi
  refine sSeq ?_
  refine W.region ?_
  refine OpsW.det (det_lss rfl rfl) rfl ?_
  refine sNext ?_
  refine sSeq ?_
  refine W.cond rfl (fun hc13 => ?_) (fun hc13 => ?_)
  · skip
    have hlt : i < l.length := by have h := hc13; simp only [decide_eq_true_eq] at h; omega
    refine sSkip ?_
    refine sSeq ?_
    refine sBlock ?_
    refine sSeq ?_
    refine W.region ?_
    refine OpsW.det (det_indexAddr_sl u22 sz5 rfl rfl ⟨by omega, by omega⟩) rfl ?_
    refine OpsW.det (det_loadC_ro ty5 rfl (List.mem_append_left _ hm) (show cs[o + ((i : Nat) : Int).toNat * 1]? = some (u8 l[i]) by simpa using hcs i hlt)) rfl ?_
    refine OpsW.det (det_assign rfl) rfl ?_
    refine sNext ?_
    refine W.keep (F' := [(7, _), (12, _), (11, _), (10, _), (5, _)]) ⟨rfl, rfl, rfl, rfl, rfl, trivial⟩ ?_
    refine W.region ?_
    refine OpsW.det (det_move rfl) rfl ?_
    refine OpsW.det (det_shlN (b := 8) rfl rfl (by decide)) rfl ?_
    refine OpsW.det (det_move rfl) rfl ?_
    refine OpsW.det ((det_conv u5 u26 rfl).to (conv_byte (hs _ (List.getElem_mem hlt)))) rfl ?_
    refine OpsW.det ((det_orN rfl rfl (beN_top hs (by omega)) (hs _ (List.getElem_mem hlt))).to (congrArg u64 (beN_step hlt).symm)) rfl ?_
    refine OpsW.det (det_assign rfl) rfl ?_
    refine sLast ?_
    refine bNext ?_
    refine W.keep (F' := [(5, _), (12, _), (11, _), (10, _)]) ⟨rfl, rfl, rfl, rfl, trivial⟩ ?_
    refine W.region ?_
    refine OpsW.det (det_addN (b := 1) rfl rfl (by omega)) rfl ?_
    refine OpsW.det (det_move rfl) rfl ?_
    refine sLast ?_
    exact rEnd (i + 1) hlt ⟨rfl, rfl, rfl, rfl, trivial⟩ (List.Sublist.refl _) (step_lt hlt)
  · skip
    have hi4 : i = l.length := by have h := hc13; simp only [decide_eq_false_iff_not] at h; omega
    subst hi4
    refine sExit ?_
    refine xLoop ?_
    refine xHere ?_
    refine W.keep (F' := [(5, _)]) ⟨rfl, trivial⟩ ?_
    refine sSeq ?_
    refine W.region ?_
    refine OpsW.det (det_move rfl) rfl ?_
    refine OpsW.det (det_assign rfl) rfl ?_
    refine sNext ?_
    refine W.keep (F' := [(4, _)]) ⟨rfl, trivial⟩ ?_
    refine sRet ?_
    exact done1 Tryd.results54 (rv_tmp rfl) (congrArg (fun z => u64 (beN z)) (List.take_length))

end Go.Cu
