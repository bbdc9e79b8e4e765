/- GraceEnds: casts by the kernel, part 1. -/
import Derived.Test.YtamfbfajlfbooaaDoorEEndK
import Derived.Test.YtamfbfajlfbooaaDoorEm4
set_option linter.unusedVariables false
set_option linter.unusedSimpArgs false
set_option linter.unusedSectionVars false
namespace Qd
theorem e1_0 : (ks1.all fun y => ks1.all fun z => goN 3 [k1_0, y, z] (endP 3) 1000 s1_3) = true := by decide +kernel
theorem e1_1 : (ks1.all fun y => ks1.all fun z => goN 3 [k1_1, y, z] (endP 3) 1000 s1_3) = true := by decide +kernel
theorem e1_2 : (ks1.all fun y => ks1.all fun z => goN 3 [k1_2, y, z] (endP 3) 1000 s1_3) = true := by decide +kernel
theorem e1_3 : (ks1.all fun y => ks1.all fun z => goN 3 [k1_3, y, z] (endP 3) 1000 s1_3) = true := by decide +kernel
theorem e1_4 : (ks1.all fun y => ks1.all fun z => goN 3 [k1_4, y, z] (endP 3) 1000 s1_3) = true := by decide +kernel
theorem e1_5 : (ks1.all fun y => ks1.all fun z => goN 3 [k1_5, y, z] (endP 3) 1000 s1_3) = true := by decide +kernel
theorem e1_6 : (ks1.all fun y => ks1.all fun z => goN 3 [k1_6, y, z] (endP 3) 1000 s1_3) = true := by decide +kernel
theorem e1_7 : (ks1.all fun y => ks1.all fun z => goN 3 [k1_7, y, z] (endP 3) 1000 s1_3) = true := by decide +kernel
theorem e1_8 : (ks1.all fun y => ks1.all fun z => goN 3 [k1_8, y, z] (endP 3) 1000 s1_3) = true := by decide +kernel
theorem e1_9 : (ks1.all fun y => ks1.all fun z => goN 3 [k1_9, y, z] (endP 3) 1000 s1_3) = true := by decide +kernel
theorem e1_10 : (ks1.all fun y => ks1.all fun z => goN 3 [k1_10, y, z] (endP 3) 1000 s1_3) = true := by decide +kernel
theorem e1_11 : (ks1.all fun y => ks1.all fun z => goN 3 [k1_11, y, z] (endP 3) 1000 s1_3) = true := by decide +kernel
theorem e1_12 : (ks1.all fun y => ks1.all fun z => goN 3 [k1_12, y, z] (endP 3) 1000 s1_3) = true := by decide +kernel
theorem e1_13 : (ks1.all fun y => ks1.all fun z => goN 3 [k1_13, y, z] (endP 3) 1000 s1_3) = true := by decide +kernel
theorem e1_14 : (ks1.all fun y => ks1.all fun z => goN 3 [k1_14, y, z] (endP 3) 1000 s1_3) = true := by decide +kernel
theorem e1_two : (ks1.all fun x => ks1.all fun y => goN 2 [x, y] (endP 2) 1000 s1_2) = true := by decide +kernel
theorem e1_one : (ks1.all fun x => goN 1 [x] (endP 1) 1000 s1_1) = true := by decide +kernel
end Qd
