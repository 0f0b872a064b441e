/- The readings of the parameters of the law FnExactPlanesOf: what can be read as data says a value of the kind, in order. Conditions: none. -/
import Derived.Test.YtljmhhadclgegaaPFnExactPlanesOfx6
import Derived.Test.YtljmhhadclgegaaRowOpen
namespace Go.Proofs.Ytljmhhadclgegaa.OpenFnExactPlanesOf
open Go.RowKit Go.Proofs.Ytljmhhadclgegaa.PFnExactPlanesOf Go.Proofs.YtljmhhadclgegaaW.PrintWords Go.Proofs.Ytljmhhadclgegaa.RowOpen
end Go.Proofs.Ytljmhhadclgegaa.OpenFnExactPlanesOf
