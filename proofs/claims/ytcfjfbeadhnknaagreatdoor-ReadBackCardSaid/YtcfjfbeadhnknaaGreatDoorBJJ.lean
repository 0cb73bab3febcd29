import Derived.Test.YtcfjfbeadhnknaaGreatDoorRows
import Derived.JoinedCond
import Derived.LaidMore
import Derived.KernelRfl
namespace Go.Proofs.YtcfjfbeadhnknaaGreatDoor
namespace lawBack
open Go.Proofs.YtcfjfbeadhnknaaGreatDoor
theorem RH:Tryz.prog.funcNamed Rows.readBackRow.func=some 5:=by kernel_rfl
theorem abG:Tryz.f5.isInstance Tryz.prog Rows.readBackRow.origin Rows.readBackRow.targs:=of_decide_eq_true (by as_aux_lemma=>kernel_rfl)
theorem abL:Tryz.f5.isWrapper Tryz.prog Rows.readBackRow.wrapper Rows.readBackRow.mainSum:=by unfold Func.isWrapper;first|(rw[if_pos (by decide+kernel)];kernel_rfl)|(rw[if_neg (by decide+kernel)];exact⟨rfl,rfl⟩)
end lawBack
end Go.Proofs.YtcfjfbeadhnknaaGreatDoor
