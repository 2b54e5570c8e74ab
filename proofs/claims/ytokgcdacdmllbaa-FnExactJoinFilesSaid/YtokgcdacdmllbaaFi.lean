/- Contracts of the program's functions over abstract heaps. -/
import Derived.Test.YtokgcdacdmllbaaFile3
import Derived.Test.YtokgcdacdmllbaaFv
namespace Go.Proofs.Ytokgcdacdmllbaa
open Go Go.AW Go.Proofs
set_option linter.unusedVariables false
set_option linter.unusedSimpArgs false
set_option maxRecDepth 100000
set_option maxHeartbeats 2000000

theorem isFileN_c {l : List Spot} {lb n c' : Nat} {r : Room} {b : Bool} {cs : List Value} {H : AHeap} (hk : H.blk lb = some (.cells cs 2)) (hcs : cs = fl spot l) (hnl : n = l.length) (hcc : n ≤ c') (hn : l.length ≤ 4194304) (hw : wfRoom r) (hsp : wfSpots l) (hb : b = true ↔ fileOk r l) : ACd Try.prog 69 [.slice (some ⟨lb, 0, none⟩) n c', .agg (roomC r).toArray] H (.bool b) H := by
  subst hcs hnl
  exact isFile_c hk hcc hn hw hsp hb

theorem l02FileN_c {l : List Spot} {lb n c' : Nat} {r : Room} {pb : Nat} {b : Bool} {cs : List Value} {H : AHeap} (hp : H.blk pb = some (.cells (roomC r) 1)) (hk : H.blk lb = some (.cells cs 2)) (hcs : cs = fl spot l) (hnl : n = l.length) (hcc : n ≤ c') (hn : l.length ≤ 4194304) (hr : okRoom r) (hw : wfRoom r) (hsp : wfSpots l) (hb : b = true ↔ fileOk r l) : ACd Try.prog 85 [.pointer (some ⟨pb, 0, none⟩), .slice (some ⟨lb, 0, none⟩) n c'] H (.bool b) H := by
  subst hcs hnl
  exact l02File_c hp hk hcc hn hr hw hsp hb

end Go.Proofs.Ytokgcdacdmllbaa
