/- Several texts joined: FcS. -/
import Derived.Test.YtgjdgcmmlfmhmaaGreatDoorFcP
/- FcS -/
namespace Go.Proofs.YtgjdgcmmlfmhmaaGreatDoor

set_option maxRecDepth 100000
theorem r23_0 : nRow 23 0 = true := by decide +kernel
theorem r23_1 : nRow 23 1 = true := by decide +kernel
theorem r23_2 : nRow 23 2 = true := by decide +kernel
theorem r23_3 : nRow 23 3 = true := by decide +kernel
theorem r23_4 : nRow 23 4 = true := by decide +kernel
theorem r23_5 : nRow 23 5 = true := by decide +kernel
theorem r23_6 : nRow 23 6 = true := by decide +kernel
theorem r23_7 : nRow 23 7 = true := by decide +kernel
theorem r23_8 : nRow 23 8 = true := by decide +kernel
theorem r23_9 : nRow 23 9 = true := by decide +kernel
theorem r23_10 : nRow 23 10 = true := by decide +kernel
theorem r23_11 : nRow 23 11 = true := by decide +kernel
theorem r23_12 : nRow 23 12 = true := by decide +kernel
theorem r23_13 : nRow 23 13 = true := by decide +kernel
theorem r23_14 : nRow 23 14 = true := by decide +kernel
theorem r23_15 : nRow 23 15 = true := by decide +kernel
theorem r23_16 : nRow 23 16 = true := by decide +kernel
theorem r23_17 : nRow 23 17 = true := by decide +kernel
theorem r23_18 : nRow 23 18 = true := by decide +kernel
theorem r23_19 : nRow 23 19 = true := by decide +kernel
theorem r23_20 : nRow 23 20 = true := by decide +kernel
theorem r23_21 : nRow 23 21 = true := by decide +kernel
theorem r23_22 : nRow 23 22 = true := by decide +kernel
theorem row23 : nAll 23 (nRow 23) = true := by
  simp only [nAll, r23_0, r23_1, r23_2, r23_3, r23_4, r23_5, r23_6, r23_7, r23_8, r23_9, r23_10, r23_11, r23_12, r23_13, r23_14, r23_15, r23_16, r23_17, r23_18, r23_19, r23_20, r23_21, r23_22, Bool.and_self]
theorem r29_0 : nRow 29 0 = true := by decide +kernel
theorem r29_1 : nRow 29 1 = true := by decide +kernel
theorem r29_2 : nRow 29 2 = true := by decide +kernel
theorem r29_3 : nRow 29 3 = true := by decide +kernel
theorem r29_4 : nRow 29 4 = true := by decide +kernel
theorem r29_5 : nRow 29 5 = true := by decide +kernel
theorem r29_6 : nRow 29 6 = true := by decide +kernel
theorem r29_7 : nRow 29 7 = true := by decide +kernel
theorem r29_8 : nRow 29 8 = true := by decide +kernel
theorem r29_9 : nRow 29 9 = true := by decide +kernel
theorem r29_10 : nRow 29 10 = true := by decide +kernel
theorem r29_11 : nRow 29 11 = true := by decide +kernel
theorem r29_12 : nRow 29 12 = true := by decide +kernel
theorem r29_13 : nRow 29 13 = true := by decide +kernel
theorem r29_14 : nRow 29 14 = true := by decide +kernel
theorem r29_15 : nRow 29 15 = true := by decide +kernel
theorem r29_16 : nRow 29 16 = true := by decide +kernel
theorem r29_17 : nRow 29 17 = true := by decide +kernel
theorem r29_18 : nRow 29 18 = true := by decide +kernel
theorem r29_19 : nRow 29 19 = true := by decide +kernel
theorem r29_20 : nRow 29 20 = true := by decide +kernel
theorem r29_21 : nRow 29 21 = true := by decide +kernel
theorem r29_22 : nRow 29 22 = true := by decide +kernel
theorem r29_23 : nRow 29 23 = true := by decide +kernel
theorem r29_24 : nRow 29 24 = true := by decide +kernel
theorem r29_25 : nRow 29 25 = true := by decide +kernel
theorem r29_26 : nRow 29 26 = true := by decide +kernel
theorem r29_27 : nRow 29 27 = true := by decide +kernel
theorem r29_28 : nRow 29 28 = true := by decide +kernel
theorem row29 : nAll 29 (nRow 29) = true := by
  simp only [nAll, r29_0, r29_1, r29_2, r29_3, r29_4, r29_5, r29_6, r29_7, r29_8, r29_9, r29_10, r29_11, r29_12, r29_13, r29_14, r29_15, r29_16, r29_17, r29_18, r29_19, r29_20, r29_21, r29_22, r29_23, r29_24, r29_25, r29_26, r29_27, r29_28, Bool.and_self]
end Go.Proofs.YtgjdgcmmlfmhmaaGreatDoor
