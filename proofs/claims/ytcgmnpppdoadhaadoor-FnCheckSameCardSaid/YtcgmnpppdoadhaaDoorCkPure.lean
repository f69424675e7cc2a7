/- What is told of a call, in plain data. No program in sight. -/
import Derived.Test.YtcgmnpppdoadhaaDoorChk
namespace Go.Proofs.YtcgmnpppdoadhaaDoor
set_option maxRecDepth 100000
open Go.RowKit
set_option linter.unusedVariables false
set_option linter.unusedSimpArgs false

def needKinds (k : Int) : List Int := if k = 1 ∨ k = 2 then [1] else if k = 4 ∨ k = 5 then [2] else if k = 6 ∨ k = 7 then [4] else if k = 8 then [1, 2, 4] else if k = 9 then [5] else []
def needRd (k : Int) : Bool := k == 1 || k == 4 || k == 7
def needWr (k : Int) : Bool := k == 2 || k == 5 || k == 6 || k == 7 || k == 8 || k == 9
def rt00 : Rt := ⟨0, 0, false, false, false⟩
def rAt (ts : List Th) (run a : Int) : Rt := ((ts[(run - 1).toNat]?).bind (fun t => t.slots[a.toNat]?)).getD rt00
def kdAt (ts : List Th) (i : Int) : Int := ((ts[(i - 1).toNat]?).map Th.kind).getD 0
def chkRt (ts : List Th) (k run : Int) (r : Rt) : Int :=
  if r.t == 0 || !((needKinds k).any (· == kdAt ts r.t)) then -1
  else if (needRd k && !r.r) || (needWr k && !r.w) then -1
  else if (needRd k && !flowAt ts r.t run) || (needWr k && !flowAt ts run r.t) then -2
  else if flowAt ts r.t run && !liveB ts r then -3 else 0
def callB (ts : List Th) (k run a b n : Int) : Bool := tblOk ts && (clOk k run a b n && kindAtB ts run 3)
def chkCall (ts : List Th) (k run a b n : Int) : Int := if !(callB ts k run a b n) then -1 else if k == 3 then 0 else chkRt ts k run (rAt ts run a)
end Go.Proofs.YtcgmnpppdoadhaaDoor
