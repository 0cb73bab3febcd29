import Derived.Test.YtcfjfbeadhnknaaGreatDoorRows
import Derived.JoinedCond
import Derived.LaidMore
import Derived.KernelRfl
namespace Go.Proofs.YtcfjfbeadhnknaaGreatDoor
namespace lawTiles
open Go.Proofs.YtcfjfbeadhnknaaGreatDoor
theorem QI:Tryz.prog.funcNamed Rows.writeTilesRow.func=some 4:=by kernel_rfl
theorem Y8:Tryz.f4.isInstance Tryz.prog Rows.writeTilesRow.origin Rows.writeTilesRow.targs:=of_decide_eq_true (by as_aux_lemma=>kernel_rfl)
theorem Zd:Tryz.f4.isWrapper Tryz.prog Rows.writeTilesRow.wrapper Rows.writeTilesRow.mainSum:=by
 unfold Func.isWrapper
 first|(rw[if_pos (by decide+kernel)];kernel_rfl)|(rw[if_neg (by decide+kernel)];exact⟨rfl,rfl⟩)
end lawTiles
end Go.Proofs.YtcfjfbeadhnknaaGreatDoor
