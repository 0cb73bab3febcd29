import Derived.Test.YtcfjfbeadhnknaaGreatDoorRows
import Derived.Test.YtcfjfbeadhnknaaGreatDoorCards
import Derived.KernelRfl
namespace Go.Proofs.YtcfjfbeadhnknaaGreatDoor
namespace lawOther
open Go.Proofs.YtcfjfbeadhnknaaGreatDoor
theorem abS{P:Program}(h:(P.funcs.toList.all λfn=>!fn.goes)=true){c:OpenClaim}(hs:c.start=.entering):false=c.goesBy P:=by
 have h1:∀fn∈P.funcs.toList,fn.goes=false:=by intro fn hf;have:=List.all_eq_true.1 h fn hf;simpa using this
 have h2:P.funcs.any Func.goes=false:=by rw[<-Array.any_toList];rw[List.any_eq_false];intro fn hf;rw[h1 fn hf];exact Bool.false_ne_true
 have h3:∀f,P.goes f=false:=by
  intro f;unfold Program.goes;rw[h2,Bool.and_false,Bool.or_false];rw[List.any_eq_false];intro g _ hg;cases hf:P.funcs[g]? with
  |none=>rw[hf] at hg;cases hg
  |some fn=>
   rw[hf] at hg;have h4:fn∈P.funcs.toList:=by have:=Array.mem_of_getElem? hf;simpa using this
   have h5:fn.goes=true:=hg;rw[h1 fn h4] at h5;cases h5
 unfold OpenClaim.goesBy Program.goesAt Program.goesFrom;rw[hs];cases P.funcNamed c.func with
 |none=>rfl
 |some f=>show false=(P.goes f||false);rw[h3 f];rfl
theorem acI:(Tryz.prog.funcs.toList.all λfn=>!fn.goes)=true:=by kernel_rfl
theorem acE:false=Rows.splitOtherRow.goesBy Tryz.pinned.checked.prog:=abS acI rfl
end lawOther
end Go.Proofs.YtcfjfbeadhnknaaGreatDoor
