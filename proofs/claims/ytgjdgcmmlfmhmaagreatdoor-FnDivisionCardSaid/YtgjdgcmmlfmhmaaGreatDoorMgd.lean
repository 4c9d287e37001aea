/- Several texts joined: FcR. -/
import Derived.Test.YtgjdgcmmlfmhmaaGreatDoorFcP
/- FcR -/
namespace Go.Proofs.YtgjdgcmmlfmhmaaGreatDoor

set_option maxRecDepth 100000
theorem r5_0 : nRow 5 0 = true := by decide +kernel
theorem r5_1 : nRow 5 1 = true := by decide +kernel
theorem r5_2 : nRow 5 2 = true := by decide +kernel
theorem r5_3 : nRow 5 3 = true := by decide +kernel
theorem r5_4 : nRow 5 4 = true := by decide +kernel
theorem row5 : nAll 5 (nRow 5) = true := by
  simp only [nAll, r5_0, r5_1, r5_2, r5_3, r5_4, Bool.and_self]
theorem r7_0 : nRow 7 0 = true := by decide +kernel
theorem r7_1 : nRow 7 1 = true := by decide +kernel
theorem r7_2 : nRow 7 2 = true := by decide +kernel
theorem r7_3 : nRow 7 3 = true := by decide +kernel
theorem r7_4 : nRow 7 4 = true := by decide +kernel
theorem r7_5 : nRow 7 5 = true := by decide +kernel
theorem r7_6 : nRow 7 6 = true := by decide +kernel
theorem row7 : nAll 7 (nRow 7) = true := by
  simp only [nAll, r7_0, r7_1, r7_2, r7_3, r7_4, r7_5, r7_6, Bool.and_self]
theorem r11_0 : nRow 11 0 = true := by decide +kernel
theorem r11_1 : nRow 11 1 = true := by decide +kernel
theorem r11_2 : nRow 11 2 = true := by decide +kernel
theorem r11_3 : nRow 11 3 = true := by decide +kernel
theorem r11_4 : nRow 11 4 = true := by decide +kernel
theorem r11_5 : nRow 11 5 = true := by decide +kernel
theorem r11_6 : nRow 11 6 = true := by decide +kernel
theorem r11_7 : nRow 11 7 = true := by decide +kernel
theorem r11_8 : nRow 11 8 = true := by decide +kernel
theorem r11_9 : nRow 11 9 = true := by decide +kernel
theorem r11_10 : nRow 11 10 = true := by decide +kernel
theorem row11 : nAll 11 (nRow 11) = true := by
  simp only [nAll, r11_0, r11_1, r11_2, r11_3, r11_4, r11_5, r11_6, r11_7, r11_8, r11_9, r11_10, Bool.and_self]
theorem r13_0 : nRow 13 0 = true := by decide +kernel
theorem r13_1 : nRow 13 1 = true := by decide +kernel
theorem r13_2 : nRow 13 2 = true := by decide +kernel
theorem r13_3 : nRow 13 3 = true := by decide +kernel
theorem r13_4 : nRow 13 4 = true := by decide +kernel
theorem r13_5 : nRow 13 5 = true := by decide +kernel
theorem r13_6 : nRow 13 6 = true := by decide +kernel
theorem r13_7 : nRow 13 7 = true := by decide +kernel
theorem r13_8 : nRow 13 8 = true := by decide +kernel
theorem r13_9 : nRow 13 9 = true := by decide +kernel
theorem r13_10 : nRow 13 10 = true := by decide +kernel
theorem r13_11 : nRow 13 11 = true := by decide +kernel
theorem r13_12 : nRow 13 12 = true := by decide +kernel
theorem row13 : nAll 13 (nRow 13) = true := by
  simp only [nAll, r13_0, r13_1, r13_2, r13_3, r13_4, r13_5, r13_6, r13_7, r13_8, r13_9, r13_10, r13_11, r13_12, Bool.and_self]
theorem r17_0 : nRow 17 0 = true := by decide +kernel
theorem r17_1 : nRow 17 1 = true := by decide +kernel
theorem r17_2 : nRow 17 2 = true := by decide +kernel
theorem r17_3 : nRow 17 3 = true := by decide +kernel
theorem r17_4 : nRow 17 4 = true := by decide +kernel
theorem r17_5 : nRow 17 5 = true := by decide +kernel
theorem r17_6 : nRow 17 6 = true := by decide +kernel
theorem r17_7 : nRow 17 7 = true := by decide +kernel
theorem r17_8 : nRow 17 8 = true := by decide +kernel
theorem r17_9 : nRow 17 9 = true := by decide +kernel
theorem r17_10 : nRow 17 10 = true := by decide +kernel
theorem r17_11 : nRow 17 11 = true := by decide +kernel
theorem r17_12 : nRow 17 12 = true := by decide +kernel
theorem r17_13 : nRow 17 13 = true := by decide +kernel
theorem r17_14 : nRow 17 14 = true := by decide +kernel
theorem r17_15 : nRow 17 15 = true := by decide +kernel
theorem r17_16 : nRow 17 16 = true := by decide +kernel
theorem row17 : nAll 17 (nRow 17) = true := by
  simp only [nAll, r17_0, r17_1, r17_2, r17_3, r17_4, r17_5, r17_6, r17_7, r17_8, r17_9, r17_10, r17_11, r17_12, r17_13, r17_14, r17_15, r17_16, Bool.and_self]
theorem r19_0 : nRow 19 0 = true := by decide +kernel
theorem r19_1 : nRow 19 1 = true := by decide +kernel
theorem r19_2 : nRow 19 2 = true := by decide +kernel
theorem r19_3 : nRow 19 3 = true := by decide +kernel
theorem r19_4 : nRow 19 4 = true := by decide +kernel
theorem r19_5 : nRow 19 5 = true := by decide +kernel
theorem r19_6 : nRow 19 6 = true := by decide +kernel
theorem r19_7 : nRow 19 7 = true := by decide +kernel
theorem r19_8 : nRow 19 8 = true := by decide +kernel
theorem r19_9 : nRow 19 9 = true := by decide +kernel
theorem r19_10 : nRow 19 10 = true := by decide +kernel
theorem r19_11 : nRow 19 11 = true := by decide +kernel
theorem r19_12 : nRow 19 12 = true := by decide +kernel
theorem r19_13 : nRow 19 13 = true := by decide +kernel
theorem r19_14 : nRow 19 14 = true := by decide +kernel
theorem r19_15 : nRow 19 15 = true := by decide +kernel
theorem r19_16 : nRow 19 16 = true := by decide +kernel
theorem r19_17 : nRow 19 17 = true := by decide +kernel
theorem r19_18 : nRow 19 18 = true := by decide +kernel
theorem row19 : nAll 19 (nRow 19) = true := by
  simp only [nAll, r19_0, r19_1, r19_2, r19_3, r19_4, r19_5, r19_6, r19_7, r19_8, r19_9, r19_10, r19_11, r19_12, r19_13, r19_14, r19_15, r19_16, r19_17, r19_18, Bool.and_self]
end Go.Proofs.YtgjdgcmmlfmhmaaGreatDoor
