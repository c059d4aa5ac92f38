/- The document's Pad. The document's words. The document's Block. The document's Sum. -/
import Derived.Test.YtieamijnajbcnaaGreatAE
import Derived.Test.YtieamijnajbcnaaGreatAC
set_option linter.unusedVariables false
set_option linter.unusedSimpArgs false
namespace Go.Proofs.YtieamijnajbcnaaGreat
open Go
attribute [local irreducible] SW SL SQ SH SA SS Pu Fin CutF HandF

section
variable {P : Program} {C : Ctx} {Q : Exit → Fr → Hp → Prop} {ρ : Fr} {H : Hp} {L rest : List Oper} {d : Option Tmp} {ty : TypeId} {pos : String} {af : Array Edge} {g : Option (Nat × Bool)} {t t' len : Nat} {d' : Option Nat} {x y : Operand} {m q : Int} {o : Oper}
end
end Go.Proofs.YtieamijnajbcnaaGreat

namespace Go.Proofs.YtieamijnajbcnaaGreat
open Go
attribute [local irreducible] SW SL SQ SH SA SS Pu Fin CutF HandF

end Go.Proofs.YtieamijnajbcnaaGreat

namespace Go.Proofs.YtieamijnajbcnaaGreat
open Go
attribute [local irreducible] SW SL SQ SH SA SS Pu Fin CutF HandF

end Go.Proofs.YtieamijnajbcnaaGreat

namespace Go.Proofs.YtieamijnajbcnaaGreat
open Go
attribute [local irreducible] SW SL SQ SH SA SS Pu Fin CutF HandF

end Go.Proofs.YtieamijnajbcnaaGreat
