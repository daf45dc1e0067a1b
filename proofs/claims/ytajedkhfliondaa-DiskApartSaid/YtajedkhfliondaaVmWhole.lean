/-
  Blocks that are loaded and stored whole, in the logic of partial frames and heaps.
  Conditions: none; it is a library of lemmas over any program.
-/
import Derived.Test.YtajedkhfliondaaVmCopy
import Derived.Test.YtajedkhfliondaaVmHead
namespace Go.Vm
open Go Go.RowKit
section
variable {P : Program} {n : Nat} {K : List Nat} {G : Hp} {w0 : World} {F : Fr} {H H' : Hp} {ops : Array Oper} {rest : List Oper} {R : Fr → Hp → Prop} {ty : TypeId} {pos : String} {after : Array Edge} {x y : Operand} {d : Option Tmp} {g : Option (Nat × Bool)}
theorem cut_whole : ∀ {l : List Value}, takeN l.length l = some l
  | [] => rfl
  | c :: l => by simp only [List.length_cons, takeN, cut_whole]
theorem over_whole : ∀ {l cs : List Value}, l.length = cs.length → over l cs = some l
  | [], [], _ => rfl
  | v :: l, c :: cs, h => by simp only [over, over_whole (show l.length = cs.length from Nat.succ.inj h)]
  | [], _ :: _, h => by cases h
  | _ :: _, [], h => by cases h
theorem det_loadW {t : TypeId} {s b : Nat} {l : List Value} {e : TypeId} {fr : Nat × Nat} (ht : TyA P t s) (hlen : l.length = s) (hx : ev F x = some (.pointer (some ⟨b, 0, none⟩))) (hm : (b, Obj.cells l.toArray e fr) ∈ H) :
    Det P K G w0 ⟨d, .load t x, ty, pos, after, g⟩ F H (.agg l.toArray) :=
  det_loadA ht hx hm (by subst hlen; exact cut_whole)
theorem OpsW.storeW {t : TypeId} {s b : Nat} {cs l : List Value} {e : TypeId} (ht : sizeIn P t = some s) (hlen : l.length = s) (hlen' : cs.length = s) (h1 : l.all (·.oneCell') = true) (hx : ev F x = some (.pointer (some ⟨b, 0, none⟩))) (hy : ev F y = some (.agg l.toArray))
    (hu : Upd H b (blk cs e) (blk l e) H') (h : OpsW P n K G w0 ops rest R F H') :
    OpsW P n K G w0 ops (⟨none, .store t x y, ty, pos, after, none⟩ :: rest) R F H :=
  OpsW.store ht hx hy rfl hlen h1 hu (over_whole (by omega)) h
end
end Go.Vm
