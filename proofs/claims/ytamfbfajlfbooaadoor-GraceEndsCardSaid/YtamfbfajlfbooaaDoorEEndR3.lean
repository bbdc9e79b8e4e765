/- GraceEnds: casts by the kernel, part 3. -/
import Derived.Test.YtamfbfajlfbooaaDoorEEndK
import Derived.Test.YtamfbfajlfbooaaDoorEm4
set_option linter.unusedVariables false
set_option linter.unusedSimpArgs false
set_option linter.unusedSectionVars false
namespace Qd
theorem e3_0 : (ks3.all fun y => ks3.all fun z => goN 3 [k3_0, y, z] (endP 3) 1000 s3_3) = true := by decide +kernel
theorem e3_1 : (ks3.all fun y => ks3.all fun z => goN 3 [k3_1, y, z] (endP 3) 1000 s3_3) = true := by decide +kernel
theorem e3_2 : (ks3.all fun y => ks3.all fun z => goN 3 [k3_2, y, z] (endP 3) 1000 s3_3) = true := by decide +kernel
theorem e3_3 : (ks3.all fun y => ks3.all fun z => goN 3 [k3_3, y, z] (endP 3) 1000 s3_3) = true := by decide +kernel
theorem e3_4 : (ks3.all fun y => ks3.all fun z => goN 3 [k3_4, y, z] (endP 3) 1000 s3_3) = true := by decide +kernel
theorem e3_5 : (ks3.all fun y => ks3.all fun z => goN 3 [k3_5, y, z] (endP 3) 1000 s3_3) = true := by decide +kernel
theorem e3_6 : (ks3.all fun y => ks3.all fun z => goN 3 [k3_6, y, z] (endP 3) 1000 s3_3) = true := by decide +kernel
theorem e3_7 : (ks3.all fun y => ks3.all fun z => goN 3 [k3_7, y, z] (endP 3) 1000 s3_3) = true := by decide +kernel
theorem e3_8 : (ks3.all fun y => ks3.all fun z => goN 3 [k3_8, y, z] (endP 3) 1000 s3_3) = true := by decide +kernel
theorem e3_9 : (ks3.all fun y => ks3.all fun z => goN 3 [k3_9, y, z] (endP 3) 1000 s3_3) = true := by decide +kernel
theorem e3_10 : (ks3.all fun y => ks3.all fun z => goN 3 [k3_10, y, z] (endP 3) 1000 s3_3) = true := by decide +kernel
theorem e3_11 : (ks3.all fun y => ks3.all fun z => goN 3 [k3_11, y, z] (endP 3) 1000 s3_3) = true := by decide +kernel
theorem e3_12 : (ks3.all fun y => ks3.all fun z => goN 3 [k3_12, y, z] (endP 3) 1000 s3_3) = true := by decide +kernel
theorem e3_13 : (ks3.all fun y => ks3.all fun z => goN 3 [k3_13, y, z] (endP 3) 1000 s3_3) = true := by decide +kernel
theorem e3_14 : (ks3.all fun y => ks3.all fun z => goN 3 [k3_14, y, z] (endP 3) 1000 s3_3) = true := by decide +kernel
theorem e3_two : (ks3.all fun x => ks3.all fun y => goN 2 [x, y] (endP 2) 1000 s3_2) = true := by decide +kernel
theorem e3_one : (ks3.all fun x => goN 1 [x] (endP 1) 1000 s3_1) = true := by decide +kernel
end Qd
