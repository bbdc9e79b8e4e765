/- GraceEnds: casts by the kernel, part 4. -/
import Derived.Test.YtamfbfajlfbooaaDoorEEndK
import Derived.Test.YtamfbfajlfbooaaDoorEm4
set_option linter.unusedVariables false
set_option linter.unusedSimpArgs false
set_option linter.unusedSectionVars false
namespace Qd
theorem e4_0 : (ks4.all fun y => ks4.all fun z => goN 3 [k4_0, y, z] (endP 3) 1000 s4_3) = true := by decide +kernel
theorem e4_1 : (ks4.all fun y => ks4.all fun z => goN 3 [k4_1, y, z] (endP 3) 1000 s4_3) = true := by decide +kernel
theorem e4_2 : (ks4.all fun y => ks4.all fun z => goN 3 [k4_2, y, z] (endP 3) 1000 s4_3) = true := by decide +kernel
theorem e4_3 : (ks4.all fun y => ks4.all fun z => goN 3 [k4_3, y, z] (endP 3) 1000 s4_3) = true := by decide +kernel
theorem e4_4 : (ks4.all fun y => ks4.all fun z => goN 3 [k4_4, y, z] (endP 3) 1000 s4_3) = true := by decide +kernel
theorem e4_5 : (ks4.all fun y => ks4.all fun z => goN 3 [k4_5, y, z] (endP 3) 1000 s4_3) = true := by decide +kernel
theorem e4_6 : (ks4.all fun y => ks4.all fun z => goN 3 [k4_6, y, z] (endP 3) 1000 s4_3) = true := by decide +kernel
theorem e4_7 : (ks4.all fun y => ks4.all fun z => goN 3 [k4_7, y, z] (endP 3) 1000 s4_3) = true := by decide +kernel
theorem e4_8 : (ks4.all fun y => ks4.all fun z => goN 3 [k4_8, y, z] (endP 3) 1000 s4_3) = true := by decide +kernel
theorem e4_9 : (ks4.all fun y => ks4.all fun z => goN 3 [k4_9, y, z] (endP 3) 1000 s4_3) = true := by decide +kernel
theorem e4_10 : (ks4.all fun y => ks4.all fun z => goN 3 [k4_10, y, z] (endP 3) 1000 s4_3) = true := by decide +kernel
theorem e4_11 : (ks4.all fun y => ks4.all fun z => goN 3 [k4_11, y, z] (endP 3) 1000 s4_3) = true := by decide +kernel
theorem e4_12 : (ks4.all fun y => ks4.all fun z => goN 3 [k4_12, y, z] (endP 3) 1000 s4_3) = true := by decide +kernel
theorem e4_13 : (ks4.all fun y => ks4.all fun z => goN 3 [k4_13, y, z] (endP 3) 1000 s4_3) = true := by decide +kernel
theorem e4_14 : (ks4.all fun y => ks4.all fun z => goN 3 [k4_14, y, z] (endP 3) 1000 s4_3) = true := by decide +kernel
theorem e4_two : (ks4.all fun x => ks4.all fun y => goN 2 [x, y] (endP 2) 1000 s4_2) = true := by decide +kernel
theorem e4_one : (ks4.all fun x => goN 1 [x] (endP 1) 1000 s4_1) = true := by decide +kernel
end Qd
