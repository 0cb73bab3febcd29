import Derived.Test.YtcfjfbeadhnknaaGreatDoorRows
import Derived.JoinedCond
import Derived.LaidMore
import Derived.KernelRfl
namespace Go.Proofs.YtcfjfbeadhnknaaGreatDoor
namespace je
open Go.Proofs.YtcfjfbeadhnknaaGreatDoor
theorem SL:Tryz.prog.funcNamed Rows.splitTurnedRow.func=some 14:=by kernel_rfl
theorem ab4:Tryz.f14.isInstance Tryz.prog Rows.splitTurnedRow.origin Rows.splitTurnedRow.targs:=of_decide_eq_true (by as_aux_lemma=>kernel_rfl)
theorem ab9:Tryz.f14.isWrapper Tryz.prog Rows.splitTurnedRow.wrapper Rows.splitTurnedRow.mainSum:=by unfold Func.isWrapper;first|(rw[if_pos (by decide+kernel)];kernel_rfl)|(rw[if_neg (by decide+kernel)];exact⟨rfl,rfl⟩)
end je
end Go.Proofs.YtcfjfbeadhnknaaGreatDoor
