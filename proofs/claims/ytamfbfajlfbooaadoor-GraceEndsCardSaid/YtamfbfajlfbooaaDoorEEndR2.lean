/- GraceEnds: casts by the kernel, part 2. -/
import Derived.Test.YtamfbfajlfbooaaDoorEEndK
import Derived.Test.YtamfbfajlfbooaaDoorEm4
set_option linter.unusedVariables false
set_option linter.unusedSimpArgs false
set_option linter.unusedSectionVars false
namespace Qd
theorem e2_0 : (ks2.all fun y => ks2.all fun z => goN 3 [k2_0, y, z] (endP 3) 1000 s2_3) = true := by decide +kernel
theorem e2_1 : (ks2.all fun y => ks2.all fun z => goN 3 [k2_1, y, z] (endP 3) 1000 s2_3) = true := by decide +kernel
theorem e2_2 : (ks2.all fun y => ks2.all fun z => goN 3 [k2_2, y, z] (endP 3) 1000 s2_3) = true := by decide +kernel
theorem e2_3 : (ks2.all fun y => ks2.all fun z => goN 3 [k2_3, y, z] (endP 3) 1000 s2_3) = true := by decide +kernel
theorem e2_4 : (ks2.all fun y => ks2.all fun z => goN 3 [k2_4, y, z] (endP 3) 1000 s2_3) = true := by decide +kernel
theorem e2_5 : (ks2.all fun y => ks2.all fun z => goN 3 [k2_5, y, z] (endP 3) 1000 s2_3) = true := by decide +kernel
theorem e2_6 : (ks2.all fun y => ks2.all fun z => goN 3 [k2_6, y, z] (endP 3) 1000 s2_3) = true := by decide +kernel
theorem e2_7 : (ks2.all fun y => ks2.all fun z => goN 3 [k2_7, y, z] (endP 3) 1000 s2_3) = true := by decide +kernel
theorem e2_8 : (ks2.all fun y => ks2.all fun z => goN 3 [k2_8, y, z] (endP 3) 1000 s2_3) = true := by decide +kernel
theorem e2_9 : (ks2.all fun y => ks2.all fun z => goN 3 [k2_9, y, z] (endP 3) 1000 s2_3) = true := by decide +kernel
theorem e2_10 : (ks2.all fun y => ks2.all fun z => goN 3 [k2_10, y, z] (endP 3) 1000 s2_3) = true := by decide +kernel
theorem e2_11 : (ks2.all fun y => ks2.all fun z => goN 3 [k2_11, y, z] (endP 3) 1000 s2_3) = true := by decide +kernel
theorem e2_12 : (ks2.all fun y => ks2.all fun z => goN 3 [k2_12, y, z] (endP 3) 1000 s2_3) = true := by decide +kernel
theorem e2_13 : (ks2.all fun y => ks2.all fun z => goN 3 [k2_13, y, z] (endP 3) 1000 s2_3) = true := by decide +kernel
theorem e2_14 : (ks2.all fun y => ks2.all fun z => goN 3 [k2_14, y, z] (endP 3) 1000 s2_3) = true := by decide +kernel
theorem e2_two : (ks2.all fun x => ks2.all fun y => goN 2 [x, y] (endP 2) 1000 s2_2) = true := by decide +kernel
theorem e2_one : (ks2.all fun x => goN 1 [x] (endP 1) 1000 s2_1) = true := by decide +kernel
end Qd
