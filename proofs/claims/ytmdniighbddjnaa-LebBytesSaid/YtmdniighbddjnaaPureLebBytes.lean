/- leb.Put, leb.Size and leb.Take answer as the document's reference does: for every number, bytes and place. -/
import Derived.Test.YtmdniighbddjnaaPLebBytesx1
import Derived.Test.YtmdniighbddjnaaHLebP
namespace Go.Proofs.Ytmdniighbddjnaa.Pure
open Go.RowKit Go.Proofs.Ytmdniighbddjnaa.Hand Go.Proofs.Ytmdniighbddjnaa.PLebBytes Go.Proofs.YtmdniighbddjnaaW.PrintWords Go.Proofs.YtmdniighbddjnaaW.PrintLast
theorem LebBytes_live : secateurlaw01_live.f = some true := by decide +kernel
theorem LebBytes : secateurlaw01_LebBytes.Pure := by
  intro a0 l1 a2 h0 _ hl hb _
  have hb1 := bytes_wf hb
  have h1 := u64B_wf h0
  unfold secateurlaw01_LebBytes.f
  rw [take_some a2 hb1 (by omega), takeR_some a2 hb1 (by omega), LebBytes_live, put_some h1, putR_some h1, size_some h1]
  simp [secateurref01_SameBytes.f]
end Go.Proofs.Ytmdniighbddjnaa.Pure
