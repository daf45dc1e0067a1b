/-
  Short steps for walks that are written by a program, in the logic of partial frames and heaps.
  Conditions: none; it is a library of lemmas over any program.
-/
import Derived.Test.YtajedkhfliondaaVmFn
namespace Go.Vm
open Go Go.RowKit

section
variable {P : Program} {n : Nat} {K : List Nat} {G : Hp} {w0 : World} {Q : Exit → Fr → Hp → Prop} {F F' : Fr} {H H' : Hp}

/-- The codes that follow, one behind the other, and then Q. -/
def stk (P : Program) (n : Nat) (K : List Nat) (G : Hp) (w0 : World) : List Code → (Exit → Fr → Hp → Prop) → Exit → Fr → Hp → Prop
  | [], Q => Q
  | c :: r, Q => fun e F H => match e with
    | .normal => W P n K G w0 c (stk P n K G w0 r Q) F H
    | e => Q e F H

theorem stk_ret {r : List Code} (h : Q .ret F H) : stk P n K G w0 r Q .ret F H := by cases r <;> exact h
theorem stk_exit {r : List Code} {id : Nat} (h : Q (.exit id) F H) : stk P n K G w0 r Q (.exit id) F H := by cases r <;> exact h

theorem sStart {c : Code} (h : W P n K G w0 c (stk P n K G w0 [] Q) F H) : W P n K G w0 c Q F H := h
theorem sSeq {x y : Code} {r : List Code} (h : W P n K G w0 x (stk P n K G w0 (y :: r) Q) F H) : W P n K G w0 (.seq x y) (stk P n K G w0 r Q) F H := by
  refine W.seq (h.mono fun e F H q => ?_)
  cases e with
  | normal => exact q
  | ret => exact stk_ret q
  | exit id => exact stk_exit q
  | goto l => cases r <;> exact q
  | panic c => cases r <;> exact q
  | outgrown => cases r <;> exact q
theorem sSkip {c : Code} {r : List Code} (h : W P n K G w0 c (stk P n K G w0 r Q) F H) : W P n K G w0 .skip (stk P n K G w0 (c :: r) Q) F H := W.skip h
theorem sSkip0 (h : Q .normal F H) : W P n K G w0 .skip (stk P n K G w0 [] Q) F H := W.skip h
theorem sRet {r : List Code} (h : Q .ret F H) : W P n K G w0 .ret (stk P n K G w0 r Q) F H := W.ret (stk_ret h)
theorem sExit {r : List Code} {id : Nat} (h : Q (.exit id) F H) : W P n K G w0 (.exit id) (stk P n K G w0 r Q) F H := W.exit (stk_exit h)
theorem sBlock {id : Nat} {c : Code} {r : List Code} (h : W P n K G w0 c (stk P n K G w0 [] (inBlk id (stk P n K G w0 r Q))) F H) : W P n K G w0 (.block id c) (stk P n K G w0 r Q) F H := W.block h
theorem sLoop {σ : Type} (FI : σ → Fr) (HI : σ → Hp) (ok : σ → Prop) (μ : σ → Nat) {c : Code} {r : List Code} (s0 : σ) (h0 : ok s0)
    (hF : Sub (FI s0) F) (hH : (HI s0).Sublist H) (round : ∀ s, ok s → W P n K G w0 c (stk P n K G w0 [] (roundEnd FI HI ok μ s (stk P n K G w0 r Q))) (FI s) (HI s)) : W P n K G w0 (.loop c) (stk P n K G w0 r Q) F H :=
  W.loop FI HI ok μ s0 h0 hF hH round
/-- The end of a region with code behind it. -/
theorem sNext {ops : Array Oper} {c : Code} {r : List Code} (h : W P n K G w0 c (stk P n K G w0 r Q) F H) : OpsW P n K G w0 ops [] (stk P n K G w0 (c :: r) Q .normal) F H := OpsW.nil h
theorem sLast {ops : Array Oper} (h : Q .normal F H) : OpsW P n K G w0 ops [] (stk P n K G w0 [] Q .normal) F H := OpsW.nil h
/-- Out of a block by its own exit, to the code behind it. -/
theorem xHere {id : Nat} {c : Code} {r : List Code} (h : W P n K G w0 c (stk P n K G w0 r Q) F H) : inBlk id (stk P n K G w0 (c :: r) Q) (.exit id) F H := by
  simp only [inBlk, Nat.beq_refl]; exact h
theorem xHere0 {id : Nat} (h : Q .normal F H) : inBlk id (stk P n K G w0 [] Q) (.exit id) F H := by
  simp only [inBlk, Nat.beq_refl]; exact h
theorem xOther {id id' : Nat} {r : List Code} (hne : Nat.beq id' id = false) (h : Q (.exit id') F H) : inBlk id (stk P n K G w0 r Q) (.exit id') F H := by
  simp only [inBlk, hne]; exact stk_exit h
theorem xLoop {σ : Type} {FI : σ → Fr} {HI : σ → Hp} {ok : σ → Prop} {μ : σ → Nat} {s : σ} {id : Nat} {r : List Code} (h : Q (.exit id) F H) : roundEnd FI HI ok μ s (stk P n K G w0 r Q) (.exit id) F H := stk_exit (P := P) (r := r) h
/-- Off a block's end. -/
theorem bNext {id : Nat} {c : Code} {r : List Code} (h : W P n K G w0 c (stk P n K G w0 r Q) F H) : inBlk id (stk P n K G w0 (c :: r) Q) .normal F H := h
theorem bLast {id : Nat} (h : Q .normal F H) : inBlk id (stk P n K G w0 [] Q) .normal F H := h
/-- Returns. -/
theorem retLoop {σ : Type} {FI : σ → Fr} {HI : σ → Hp} {ok : σ → Prop} {μ : σ → Nat} {s : σ} {r : List Code} (h : Q .ret F H) : roundEnd FI HI ok μ s (stk P n K G w0 r Q) .ret F H := stk_ret (P := P) (r := r) h
theorem retBlk {id : Nat} {r : List Code} (h : Q .ret F H) : inBlk id (stk P n K G w0 r Q) .ret F H := stk_ret (P := P) (r := r) h
/-- A round's end. -/
theorem rEnd {σ : Type} {FI : σ → Fr} {HI : σ → Hp} {ok : σ → Prop} {μ : σ → Nat} {s : σ} (s' : σ) (h1 : ok s') (h2 : Sub (FI s') F) (h3 : (HI s').Sublist H) (h4 : μ s' < μ s) : roundEnd FI HI ok μ s Q .normal F H := ⟨s', h1, h2, h3, h4⟩

theorem OpsW.norm {ops : Array Oper} {l : List Oper} {R : Fr → Hp → Prop} (hF : F = F') (hH : H = H') (h : OpsW P n K G w0 ops l R F' H') : OpsW P n K G w0 ops l R F H := by
  subst hF; subst hH; exact h
theorem W.norm {c : Code} (hF : F = F') (hH : H = H') (h : W P n K G w0 c Q F' H') : W P n K G w0 c Q F H := by
  subst hF; subst hH; exact h

def clLt : Nat → List (List Nat) → Bool
  | _, [] => true
  | k, pl :: r => pl.all (fun j => decide (j < k)) && clLt (k + 1) r
theorem clLt_eq : ∀ {cl : List (List Nat)} {k : Nat}, clLt k cl = true → ∀ i, ∀ j ∈ clAt cl i, j < k + i
  | [], k, _, i, j, hj => by simp [clAt] at hj
  | pl :: r, k, h, i, j, hj => by
    simp only [clLt, Bool.and_eq_true] at h
    cases i with
    | zero => have := List.all_eq_true.1 h.1 j (by simpa [clAt] using hj); simpa using this
    | succ i => have := clLt_eq h.2 i j (by simpa [clAt] using hj); omega
theorem cl_lt {cl : List (List Nat)} (h : clLt 0 cl = true) : ∀ i, ∀ j ∈ clAt cl i, j < i := fun i j hj => by
  have := clLt_eq h i j hj; omega

theorem OpsW.store {ops : Array Oper} {rest : List Oper} {t : TypeId} {x y : Operand} {ty : TypeId} {pos : String} {after : Array Edge} {R : Fr → Hp → Prop} {s b o : Nat} {cs l cs' : List Value} {e : TypeId} {u : Value}
    (ht : sizeIn P t = some s) (hx : ev F x = some (.pointer (some ⟨b, o, none⟩))) (hy : ev F y = some u) (hl : u.cells = l.toArray) (hlen : l.length = s) (h1 : l.all (·.oneCell') = true)
    (hu : Upd H b (blk cs e) (blk cs' e) H') (hs : splice o l cs = some cs') (h : OpsW P n K G w0 ops rest R F H') :
    OpsW P n K G w0 ops (⟨none, .store t x y, ty, pos, after, none⟩ :: rest) R F H :=
  OpsW.write (wr_store ht hx hy hl hlen h1 hs) hu h

theorem flt_extract {d : Option Tmp} {ty : TypeId} {pos : String} {after : Array Edge} {g : Option (Nat × Bool)} {a : Act} {w : World} {x : Operand} {i : Nat} {l : List Value} {v : Value} (hs : Slots F a) (hx : ev F x = some (.tuple l.toArray)) (hv : l[i]? = some v) :
    (execOp a.eval ⟨d, .extract x i, ty, pos, after, g⟩).run P w = .ok (.value v) w := by simp [execOp, hs.ev hx, Instr.extract, hv]
theorem flt_move {d : Option Tmp} {ty : TypeId} {pos : String} {after : Array Edge} {g : Option (Nat × Bool)} {a : Act} {w : World} {x : Operand} {v : Value} (hs : Slots F a) (hx : ev F x = some v) :
    (execOp a.eval ⟨d, .move x, ty, pos, after, g⟩).run P w = .ok (.value v) w := by simp [execOp, hs.ev hx]
theorem flt_assign {d : Option Tmp} {ty : TypeId} {pos : String} {after : Array Edge} {g : Option (Nat × Bool)} {a : Act} {w : World} {x : Operand} {v : Value} (hs : Slots F a) (hx : ev F x = some v) :
    (execOp a.eval ⟨d, .assign x, ty, pos, after, g⟩).run P w = .ok (.value v) w := by simp [execOp, hs.ev hx]

theorem Old.blocks {w : World} (h : Old K G w0 w) : Blocks G w := fun _ hp => h.look hp
theorem Old.tail {q : Nat × Obj} {w : World} (h : Old K (q :: G) w0 w) : Old K G w0 w := ⟨h.os, h.tape, h.output, h.size, h.old, fun p hp => h.ro p (List.mem_cons_of_mem _ hp)⟩

/-- A function that the model itself carries out. -/
theorem det_extern {d : Option Tmp} {ty : TypeId} {pos : String} {after : Array Edge} {g : Option (Nat × Bool)} {f : FuncId} {xs : List Operand} {ats : Array TypeId} {vs : List Value} {v : Value} (hx : evs F xs = some vs)
    (h : ExternTo P f vs v) : Det P K G w0 ⟨d, .call { callee := .value (.func f), args := xs.toArray, argTypes := ats }, ty, pos, after, g⟩ F H v :=
  det_run fun a w hs _ _ => by
    have hm := evs_map hs hx
    simp [execOp, resolve, Deferred.ofValue, Act.eval, invoke, hm]
    exact h w
end
theorem Pure.of {P : Program} {f : FuncId} {args : Array Value} {w : World} {v : Value} (h : Calls P f args w fun e w' => e = .returned v ∧ Below w.heap.size w w') : Pure P f args w v := h
theorem Pure.out {P : Program} {f : FuncId} {args : Array Value} {w : World} {v : Value} (h : Pure P f args w v) : Calls P f args w fun e w' => e = .returned v ∧ Below w.heap.size w w' := h
theorem Pure.same {P : Program} {f : FuncId} {args : Array Value} {w : World} {v u : Value} (h : Pure P f args w v) (e : v = u) : Pure P f args w u := e ▸ h
theorem Enters.of {P : Program} {f : FuncId} (h : ∀ args w, (callFunc f args).run P w = .ok (.enter f args) w) : Enters P f := h
theorem ExternTo.of {P : Program} {f : FuncId} {vs : List Value} {v : Value} (h : ∀ w, (callFunc f vs.toArray).run P w = .ok (.value v) w) : ExternTo P f vs v := h
theorem BuildTo.of {P : Program} {t : TypeId} {vs : List (Nat × Value)} {v : Value} (h : ∀ w, (Instr.build t vs.toArray).run P w = .ok v w) : BuildTo P t vs v := h
theorem ZeroTo.of {P : Program} {t : TypeId} {v : Value} (h : ∀ w, (Instr.build t #[]).run P w = .ok v w) : ZeroTo P t v := h
theorem FieldTo.of {P : Program} {t : TypeId} {u : Value} {f : Nat} {v : Value} (h : ∀ w, (Instr.field t u f).run P w = .ok v w) : FieldTo P t u f v := h
theorem IndexTo.of {P : Program} {t : TypeId} {u z v : Value} (h : ∀ w, (Instr.index t u z).run P w = .ok v w) : IndexTo P t u z v := h
theorem BinTo.of {P : Program} {op : BinOp} {t : TypeId} {x y : Operand} {u z v : Value} (h1 : ∀ w, (eqGuard op t x y u z).run P w = .ok () w) (h2 : ∀ w, (binOp op t u z).run P w = .ok v w) : BinTo P op t x y u z v := ⟨h1, h2⟩
theorem SliceTo.of {P : Program} {t len : Nat} {vs : List (Nat × Value)} {cs : List Value} {el : TypeId} (h : ∀ w, (Instr.buildSlice t len vs.toArray).run P w = .ok (.slice (some ⟨w.heap.size, 0, none⟩) len len) (w.alloc (blk cs el))) : SliceTo P t len vs cs el := h
theorem Makes.of {P : Program} {f : FuncId} {args : Array Value} {w : World} {mk : Prm → Value} {ob : Prm → Hp} {ok : Prm → Prop}
    (h : Calls P f args w fun e w' => ∃ p, ok p ∧ e = .returned (mk p) ∧ Blocks (ob p) w' ∧ ((ob p).map (·.1)).Nodup ∧ (∀ q ∈ ob p, w.heap.size ≤ q.1) ∧ Below w.heap.size w w') : Makes P f args w mk ob ok := h
end Go.Vm
