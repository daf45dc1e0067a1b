/-
  Frames that are written out anew, in regions that draw their order.
  Conditions: none; it is a library of lemmas over any program.
-/
import Derived.Test.YtajedkhfliondaaVmStr
namespace Go.Vm
open Go Go.RowKit
section
variable {P : Program} {n : Nat} {K : List Nat} {G : Hp} {w0 : World} {ops : Array Oper} {cl : List (List Nat)} {F F' F0 : Fr} {H H' H0 : Hp}
theorem Head.norm {fin : List HE → Prop} {k k' : Nat} {es es' : List HE} (hk : k = k') (he : es = es') (h : Head P K G w0 ops cl F0 H0 fin k' es') : Head P K G w0 ops cl F0 H0 fin k es := by
  subst hk; subst he; exact h
theorem Det.norm {o : Oper} {v : Value} (hF : F = F') (hH : H = H') (h : Det P K G w0 o F' H' v) : Det P K G w0 o F H v := by
  subst hF; subst hH; exact h
theorem New.norm {o : Oper} {mk : Prm → Value} {ob : Prm → Hp} {ok : Prm → Prop} (hF : F = F') (hH : H = H') (h : New P K G w0 o F' H' mk ob ok) : New P K G w0 o F H mk ob ok := by
  subst hF; subst hH; exact h
theorem look_norm {s : Nat} {v : Option Value} (hF : F = F') (h : look F' s = v) : look F s = v := by
  subst hF; exact h
end
end Go.Vm
