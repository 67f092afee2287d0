import Derived.Test.YtbfdokfelolmbaaCe
/-
  The known calls answer true.
-/
set_option linter.all false
section
open Go.Proofs.Ytbfdokfelolmbaa.Vai
namespace Go.Proofs.Ytbfdokfelolmbaa.TensW
noncomputable def baseK : Base := { P := Try.prog, glob := fun _ => none, lend := fun f => decide (43 ≤ f) && decide (f ≤ 45), raw := fun f => decide (42 ≤ f) && decide (f ≤ 43), ext := fun _ => none }
theorem known : absCall baseK 300 6 [] [] = some (.s (.bool true), []) := by kernel_rfl
theorem known_spec : CallSpec Try.prog (fun _ => none) 6 [] [] (.s (.bool true)) [] := absCall_sound (B := baseK) mixed (fun f g h => by cases h) 300 6 [] [] _ _ known
end Go.Proofs.Ytbfdokfelolmbaa.TensW
end
