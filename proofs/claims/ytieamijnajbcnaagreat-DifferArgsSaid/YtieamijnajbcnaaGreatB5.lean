/- What a book's clash is; a book of few texts that has none keeps them apart. -/
import Derived.Test.YtieamijnajbcnaaGreatD5
set_option linter.unusedVariables false
set_option linter.unusedSimpArgs false
namespace Go.Proofs.YtieamijnajbcnaaGreat
open Go
attribute [local irreducible] SW SL SQ SH SA SS Pu Fin CutF HandF

section
variable {P : Program} {C : Ctx} {Q : Exit → Fr → Hp → Prop} {ρ : Fr} {H : Hp} {L rest : List Oper} {d : Option Tmp} {ty : TypeId} {pos : String} {af : Array Edge} {g : Option (Nat × Bool)} {t t' len : Nat} {d' : Option Nat} {x y : Operand} {a b : List UInt8} {o : Oper}
end
end Go.Proofs.YtieamijnajbcnaaGreat
