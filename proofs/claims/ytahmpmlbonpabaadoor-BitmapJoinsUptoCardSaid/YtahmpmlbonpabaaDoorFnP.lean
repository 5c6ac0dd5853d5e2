/- What the function in a variable answers, for the walk of a function that calls it. -/
import Derived.Test.YtahmpmlbonpabaaDoorFnCall
import Derived.Test.YtahmpmlbonpabaaDoorTab
namespace Go.Proofs.YtahmpmlbonpabaaDoor
open Go.RowKit Go.Proofs.YtahmpmlbonpabaaDoorW.PrintWords Go.Proofs.YtahmpmlbonpabaaDoorW.PrintLast Go.Proofs.YtahmpmlbonpabaaDoorW.PrintMore
structure FnP (g : Nat) (F : Int → Int → Option Int) (fn : Func) : Prop where
  hf : Tryd.prog.funcs[g]? = some fn
  hn : (fn.name == "runtime.NumGoroutine") = false
  hb : fn.body.isSome = true
  calls : ∀ (a0 a1 r : Int) (w : World), F a0 a1 = some r → TabW w → Calls Tryd.prog g #[.int .u64 a0, .int .u64 a1] w fun e w' => e = .returned (.int .u64 r) ∧ Drawn0 w w'
end Go.Proofs.YtahmpmlbonpabaaDoor
