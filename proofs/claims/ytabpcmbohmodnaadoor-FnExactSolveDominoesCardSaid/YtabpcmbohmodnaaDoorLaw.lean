/-
  Each exact law holds if the reference and the program give the same, small enough: printed by program. No condition.
-/
import Derived.Test.YtabpcmbohmodnaaDoorHelp
namespace Go.Fn
open Go Go.Tc
set_option linter.unusedVariables false
theorem cb0 (xs : (List Int)) (h : Sml xs) : Cnt.cnt xs ≤ 1048576 := cnt_le (n := 1048576) (m := 1) h.1 (fun _ _ => Nat.le_refl _)
theorem cb1 (xs : (List GDomino)) (h : Sml xs) : Cnt.cnt xs ≤ 2199023255552 := cnt_le (n := 1048576) (m := 2097152) h.1 (fun x hx => by
    have := cb0 x.Top (h.2 x hx).1
    have := cb0 x.Bottom (h.2 x hx).2
    show Cnt.cnt x.Top + Cnt.cnt x.Bottom ≤ 2097152
    omega)

end Go.Fn
