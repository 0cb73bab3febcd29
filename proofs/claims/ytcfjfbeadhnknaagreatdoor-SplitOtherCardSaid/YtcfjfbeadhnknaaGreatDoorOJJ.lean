import Derived.Test.YtcfjfbeadhnknaaGreatDoorRows
import Derived.JoinedCond
import Derived.LaidMore
import Derived.KernelRfl
namespace Go.Proofs.YtcfjfbeadhnknaaGreatDoor
namespace lawOther
open Go.Proofs.YtcfjfbeadhnknaaGreatDoor
theorem Tj:Tryz.prog.funcNamed Rows.splitOtherRow.func=some 10:=by kernel_rfl
theorem acF:Tryz.f10.isInstance Tryz.prog Rows.splitOtherRow.origin Rows.splitOtherRow.targs:=of_decide_eq_true (by as_aux_lemma=>kernel_rfl)
theorem acK:Tryz.f10.isWrapper Tryz.prog Rows.splitOtherRow.wrapper Rows.splitOtherRow.mainSum:=by unfold Func.isWrapper;first|(rw[if_pos (by decide+kernel)];kernel_rfl)|(rw[if_neg (by decide+kernel)];exact⟨rfl,rfl⟩)
end lawOther
end Go.Proofs.YtcfjfbeadhnknaaGreatDoor
