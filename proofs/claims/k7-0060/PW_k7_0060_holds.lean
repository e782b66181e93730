import PyProof.Rows.All
import Wide.All
import OpenK.AllK
import Wide.FinOn
import PySem.Challenge.RW_k7_0060
open PySem PySem.W PyProof.Rows
set_option Elab.async false
set_option maxRecDepth 100000 in
set_option maxHeartbeats 8000000 in
theorem PySem.Challenge.cw_k7_0060_holds : PySem.Challenge.rw_k7_0060.Holds := by
  k_with "pyIter ref" => k_state (fun pre text want => Txt.upper text = want ∧ text.length = pre.length ∧ want.length = pre.length) "text" "want"
  open_k
