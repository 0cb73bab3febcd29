import Derived.Test.YtcfjfbeadhnknaaGreatDoorRows
import Derived.JoinedCond
import Derived.LaidMore
import Derived.KernelRfl
namespace Go.Proofs.YtcfjfbeadhnknaaGreatDoor
namespace jj
open Go.Proofs.YtcfjfbeadhnknaaGreatDoor
theorem S9:Tryz.prog.funcNamed Rows.splitBackRow.func=some 13:=by kernel_rfl
theorem ab8:Tryz.f13.isInstance Tryz.prog Rows.splitBackRow.origin Rows.splitBackRow.targs:=of_decide_eq_true (by as_aux_lemma=>kernel_rfl)
theorem ace:Tryz.f13.isWrapper Tryz.prog Rows.splitBackRow.wrapper Rows.splitBackRow.mainSum:=by unfold Func.isWrapper;first|(rw[if_pos (by decide+kernel)];kernel_rfl)|(rw[if_neg (by decide+kernel)];exact⟨rfl,rfl⟩)
end jj
end Go.Proofs.YtcfjfbeadhnknaaGreatDoor
