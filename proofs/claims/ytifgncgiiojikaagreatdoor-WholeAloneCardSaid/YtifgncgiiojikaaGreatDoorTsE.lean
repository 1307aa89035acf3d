/- The walks: alembicref19.Happens, Consistent, Why; tso.Why (printed by gen_tso2.py). -/
import Derived.Test.YtifgncgiiojikaaGreatDoorTsD
set_option linter.unusedSimpArgs false
set_option linter.unusedVariables false
namespace Go.Proofs.YtifgncgiiojikaaGreatDoor
open Go Go.Eng Go.Tc Go.Rl Go.Vw
attribute [local irreducible] wpList Code.wp bodyPost Exit.then Exit.inBlock Calls
def tsR (t : Tr) (c : Cd) : Rs := [((t.evs.length : Int), relOf t.evs.length (poP t)), ((t.evs.length : Int), relOf t.evs.length (plP t)), ((t.evs.length : Int), relOf t.evs.length (rfP t c)), ((t.evs.length : Int), relOf t.evs.length (exP t (rfP t c))), ((t.evs.length : Int), relOf t.evs.length (coP t c)), ((t.evs.length : Int), relOf t.evs.length (exP t (coP t c))), ((t.evs.length : Int), relOf t.evs.length (frP t c)), ((t.evs.length : Int), relOf t.evs.length (exP t (frP t c))), ((t.evs.length : Int), relOf t.evs.length (cmP t c)), ((t.evs.length : Int), relOf t.evs.length (fnP t)), ((t.evs.length : Int), relOf t.evs.length (ppP t))]
def twhyE (t : Tr) (c : Cd) : Int := if cdE t c = 0 then if cohB t c = true then if acyP t (tsP t c) = true then 4 else arcsE (tsR t c) (roundS t.evs.length (relOf t.evs.length (tsP t c))) else whyE t c else cdE t c
def twhyL (t : Tr) (c : Cd) : List Arc := if cdE t c = 0 then if cohB t c = true then if acyP t (tsP t c) = true then [] else arcsL (tsR t c) (roundS t.evs.length (relOf t.evs.length (tsP t c))) else whyL t c else []

end Go.Proofs.YtifgncgiiojikaaGreatDoor
