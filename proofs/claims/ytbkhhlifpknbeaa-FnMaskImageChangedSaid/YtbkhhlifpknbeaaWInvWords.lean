-- PRINTED BY print.sh 35421559b90ae4d0a3588c463048766b98c2df88dd9212a6774a882060cdf62d: the kit's print, without the theorems that this seat does not use (prune_words.py, a program of this work)
import Derived.Test.YtbkhhlifpknbeaaWInv
import Derived.Test.YtbkhhlifpknbeaaWFootNe
namespace Go.Proofs.YtbkhhlifpknbeaaW.PrintWords
open Go.RowKit
end Go.Proofs.YtbkhhlifpknbeaaW.PrintWords
namespace Go.Proofs.YtbkhhlifpknbeaaW.PrintLast
section
variable {ops : Array Oper} {a : Act} {o og : Oper} {g : Nat} {t : Tmp} {u : Bool}
end
end Go.Proofs.YtbkhhlifpknbeaaW.PrintLast
