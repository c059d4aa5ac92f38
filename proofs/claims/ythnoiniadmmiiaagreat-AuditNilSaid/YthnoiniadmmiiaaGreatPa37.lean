/- Calls through interfaces. Heaps in plain words. -/
import Derived.Test.YthnoiniadmmiiaaGreatPa5
set_option linter.unusedVariables false
set_option linter.unusedSimpArgs false
set_option linter.unusedSectionVars false
namespace Go.Proofs.YthnoiniadmmiiaaGreat
open Go

section
variable {P : Program}
variable {C : Ctx} {Q : Exit → Fr → Hp → Prop} {ρ : Fr} {H : Hp} {L rest : List Oper} {d : Option Tmp} {ty : TypeId} {pos : String} {af : Array Edge} {g : Option (Nat × Bool)} {t t' : Nat} {d' : Option Nat} {x y : Operand} {o : Oper} {v : Value}
end
end Go.Proofs.YthnoiniadmmiiaaGreat

namespace Go.Proofs.YthnoiniadmmiiaaGreat
open Go
namespace Pq
/-- A thing of two numbers, and as which one it came. -/
structure Sx where
  a : Int
  b : Int
  num : Int
deriving DecidableEq, Inhabited
/-- An order in which there may be alike ones. -/
structure Ord (α : Type) (lt : α → α → Bool) : Prop where
  asym : ∀ x y, lt x y = true → lt y x = false
  neg : ∀ x y z, lt x y = false → lt y z = false → lt x z = false
section
variable {lt : Sx → Sx → Bool}
def le (lt : Sx → Sx → Bool) (a b : Sx) : Prop := lt b a = false
theorem le_trans (h : Ord Sx lt) {a b c : Sx} (h1 : le lt a b) (h2 : le lt b c) : le lt a c := h.neg _ _ _ h2 h1
theorem le_of_lt (h : Ord Sx lt) {a b : Sx} (h1 : lt a b = true) : le lt a b := h.asym _ _ h1
theorem le_refl (h : Ord Sx lt) (a : Sx) : le lt a a := by
  unfold le
  cases p : lt a a with
  | false => rfl
  | true => have := h.asym _ _ p; rw [p] at this; exact this
end
end Pq
end Go.Proofs.YthnoiniadmmiiaaGreat
