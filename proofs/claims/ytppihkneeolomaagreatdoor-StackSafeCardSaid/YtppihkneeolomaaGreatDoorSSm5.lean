/- Texts that belong together, joined. -/
import Derived.Test.YtppihkneeolomaaGreatDoorSSm1
import Derived.Test.YtppihkneeolomaaGreatDoorSSCodeFine
set_option linter.unusedVariables false
set_option linter.unusedSimpArgs false
set_option linter.unusedSectionVars false
section
namespace Qu
open Qs Qg Qh
def dig8(n:Nat):UInt8:=UInt8.ofNat (48+n)
def labO(k:Nat):List UInt8:=if k<10 then [111,dig8 k]else if k<100 then [111,dig8 (k/10),dig8 (k % 10)]else 111 :: List.replicate k 97
end Qu
end
section
namespace Qu
open Qs Qg Qh
def labN(k:Nat):List UInt8:=if k<100 then labO k else if k<128 then [111,dig8 (k/100),dig8 (k/10 % 10),dig8 (k % 10)]else 111 :: List.replicate k 97
theorem labN_inj:∀i,i<128→∀j,j<128→labN i=labN j→i=j:=by decide +kernel
theorem labN_facts:∀i,i<128→¬46∈labN i∧(labN i).length≤4∧nameB (labN i)=true∧∀c,c<26→nameB (labN i++[46,UInt8.ofNat (97+c)])=true:=by decide +kernel
theorem labN_long{k:Nat}(h:128≤k):labN k=111 :: List.replicate k 97:=by
 unfold labN;rw[if_neg (by omega),if_neg (by omega)]
theorem labN_lab:Lab labN:=by
 refine ⟨fun i j h=>?_,fun j h=>?_⟩
 ·by_cases hi:i<128
  ·by_cases hj:j<128
   ·exact labN_inj i hi j hj h
   ·have h1:=congrArg List.length h;have:=(labN_facts i hi).2.1;rw[labN_long (k:=j) (by omega)]at h1;simp at h1;omega
  ·by_cases hj:j<128
   ·have h1:=congrArg List.length h;have:=(labN_facts j hj).2.1;rw[labN_long (k:=i) (by omega)]at h1;simp at h1;omega
   ·have h1:=congrArg List.length h;rw[labN_long (k:=i) (by omega),labN_long (k:=j) (by omega)]at h1;simp at h1;omega
 ·by_cases hj:j<128
  ·exact (labN_facts j hj).1 h
  ·rw[labN_long (by omega)]at h
   rcases List.mem_cons.1 h with h|h
   ·exact absurd h (by decide)
   ·exact absurd (List.eq_of_mem_replicate h) (by decide)
end Qu
end
