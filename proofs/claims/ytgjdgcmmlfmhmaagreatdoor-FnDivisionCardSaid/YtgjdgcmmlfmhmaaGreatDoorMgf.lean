/- Several texts joined: FcT. -/
import Derived.Test.YtgjdgcmmlfmhmaaGreatDoorFcP
/- FcT -/
namespace Go.Proofs.YtgjdgcmmlfmhmaaGreatDoor

set_option maxRecDepth 100000
theorem r31_0 : nRow 31 0 = true := by decide +kernel
theorem r31_1 : nRow 31 1 = true := by decide +kernel
theorem r31_2 : nRow 31 2 = true := by decide +kernel
theorem r31_3 : nRow 31 3 = true := by decide +kernel
theorem r31_4 : nRow 31 4 = true := by decide +kernel
theorem r31_5 : nRow 31 5 = true := by decide +kernel
theorem r31_6 : nRow 31 6 = true := by decide +kernel
theorem r31_7 : nRow 31 7 = true := by decide +kernel
theorem r31_8 : nRow 31 8 = true := by decide +kernel
theorem r31_9 : nRow 31 9 = true := by decide +kernel
theorem r31_10 : nRow 31 10 = true := by decide +kernel
theorem r31_11 : nRow 31 11 = true := by decide +kernel
theorem r31_12 : nRow 31 12 = true := by decide +kernel
theorem r31_13 : nRow 31 13 = true := by decide +kernel
theorem r31_14 : nRow 31 14 = true := by decide +kernel
theorem r31_15 : nRow 31 15 = true := by decide +kernel
theorem r31_16 : nRow 31 16 = true := by decide +kernel
theorem r31_17 : nRow 31 17 = true := by decide +kernel
theorem r31_18 : nRow 31 18 = true := by decide +kernel
theorem r31_19 : nRow 31 19 = true := by decide +kernel
theorem r31_20 : nRow 31 20 = true := by decide +kernel
theorem r31_21 : nRow 31 21 = true := by decide +kernel
theorem r31_22 : nRow 31 22 = true := by decide +kernel
theorem r31_23 : nRow 31 23 = true := by decide +kernel
theorem r31_24 : nRow 31 24 = true := by decide +kernel
theorem r31_25 : nRow 31 25 = true := by decide +kernel
theorem r31_26 : nRow 31 26 = true := by decide +kernel
theorem r31_27 : nRow 31 27 = true := by decide +kernel
theorem r31_28 : nRow 31 28 = true := by decide +kernel
theorem r31_29 : nRow 31 29 = true := by decide +kernel
theorem r31_30 : nRow 31 30 = true := by decide +kernel
theorem row31 : nAll 31 (nRow 31) = true := by
  simp only [nAll, r31_0, r31_1, r31_2, r31_3, r31_4, r31_5, r31_6, r31_7, r31_8, r31_9, r31_10, r31_11, r31_12, r31_13, r31_14, r31_15, r31_16, r31_17, r31_18, r31_19, r31_20, r31_21, r31_22, r31_23, r31_24, r31_25, r31_26, r31_27, r31_28, r31_29, r31_30, Bool.and_self]
end Go.Proofs.YtgjdgcmmlfmhmaaGreatDoor
