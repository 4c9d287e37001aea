/- Several texts joined: DwP FcW DvU. -/
import Derived.Test.YtgjdgcmmlfmhmaaGreatDoorMgh
import Derived.Test.YtgjdgcmmlfmhmaaGreatDoorDvPlain
import Derived.Test.YtgjdgcmmlfmhmaaGreatDoorMgg
/- DwP -/
namespace Go.Proofs.YtgjdgcmmlfmhmaaGreatDoor

/-- the k-th value out of those before it -/
def dwN (g : Int) (xs : List Int) (k : Nat) : Int :=
  if k % 2 = 0 then eat xs (k / 2) * (eat xs (k / 2 + 2) * (eat xs (k / 2 - 1) * eat xs (k / 2 - 1)) - eat xs (k / 2 - 2) * (eat xs (k / 2 + 1) * eat xs (k / 2 + 1)))
  else if k / 2 % 2 = 0 then eat xs (k / 2 + 2) * (eat xs (k / 2) * eat xs (k / 2) * eat xs (k / 2)) * g - eat xs (k / 2 - 1) * (eat xs (k / 2 + 1) * eat xs (k / 2 + 1) * eat xs (k / 2 + 1))
  else eat xs (k / 2 + 2) * (eat xs (k / 2) * eat xs (k / 2) * eat xs (k / 2)) - eat xs (k / 2 - 1) * (eat xs (k / 2 + 1) * eat xs (k / 2 + 1) * eat xs (k / 2 + 1)) * g
def dwG (A B x : Int) : Int := 16 * dvF A B x * dvF A B x
def dwL (A B x : Int) : Nat → List Int
  | 0 => [0, 1, 1, dvT A B x, dvQ A B x]
  | j + 1 => dwL A B x j ++ [dwN (dwG A B x) (dwL A B x j) (5 + j)]
theorem dwL_len (A B x : Int) : ∀ j, (dwL A B x j).length = 5 + j
  | 0 => rfl
  | j + 1 => by simp only [dwL, List.length_append, dwL_len A B x j, List.length_singleton]; omega
theorem dwL_pre (A B x : Int) (i j n : Nat) (hn : n < 5 + i) : eat (dwL A B x (i + j)) n = eat (dwL A B x i) n := by
  induction j with
  | zero => rfl
  | succ j ih =>
    rw [← ih, Nat.add_succ]
    unfold eat
    rw [dwL, List.getElem?_append_left (by rw [dwL_len]; omega)]
def dwE (A B x : Int) (n : Nat) : Int := eat (dwL A B x (n - 4)) n
theorem dwE_of (A B x : Int) (j n : Nat) (hn : n < 5 + j) : eat (dwL A B x j) n = dwE A B x n := by
  unfold dwE
  have h := dwL_pre A B x (n - 4) (j - (n - 4)) n (by omega)
  rw [show n - 4 + (j - (n - 4)) = j by omega] at h
  exact h
/-! their digits -/
def ean (xs : List Nat) (i : Nat) : Nat := xs[i]?.getD 1
def szN (xs : List Nat) (k : Nat) : Nat :=
  if k % 2 = 0 then ean xs (k / 2) + (max (ean xs (k / 2 + 2) + (ean xs (k / 2 - 1) + ean xs (k / 2 - 1))) (ean xs (k / 2 - 2) + (ean xs (k / 2 + 1) + ean xs (k / 2 + 1))) + 1)
  else max (ean xs (k / 2 + 2) + (ean xs (k / 2) + ean xs (k / 2) + ean xs (k / 2)) + 5) (ean xs (k / 2 - 1) + (ean xs (k / 2 + 1) + ean xs (k / 2 + 1) + ean xs (k / 2 + 1)) + 5) + 1
def szL : Nat → List Nat
  | 0 => [1, 1, 1, 4, 5]
  | j + 1 => szL j ++ [szN (szL j) (5 + j)]
theorem szL_len : ∀ j, (szL j).length = 5 + j
  | 0 => rfl
  | j + 1 => by simp only [szL, List.length_append, szL_len j, List.length_singleton]; omega
theorem mulTwo_bd {x M : Int} (hM : 0 ≤ M) (h : -M ≤ x ∧ x ≤ M) {y N : Int} (hN : 0 ≤ N) (k : -N ≤ y ∧ y ≤ N) : -(M * N) ≤ x * y ∧ x * y ≤ M * N := by
  have h1 : (x * y).natAbs ≤ M.natAbs * N.natAbs := by rw [Int.natAbs_mul]; exact Nat.mul_le_mul (by omega) (by omega)
  have h2 : ((M.natAbs * N.natAbs : Nat) : Int) = M * N := by rw [Int.natCast_mul, Int.natAbs_of_nonneg hM, Int.natAbs_of_nonneg hN]
  omega
theorem dv_bds {A B x : Int} (hA : -1000 ≤ A ∧ A ≤ 1000) (hB : -10000 ≤ B ∧ B ≤ 10000) (hx : -1000 ≤ x ∧ x ≤ 1000) : Sz 4 (dvT A B x) ∧ Sz 5 (dvQ A B x) ∧ Sz 5 (dwG A B x) := by
  have x2 := mulTwo_bd (by omega) hx (by omega) hx
  have x3 := mulTwo_bd (by omega) x2 (by omega) hx
  have x4 := mulTwo_bd (by omega) x3 (by omega) hx
  have x4' := mulTwo_bd (by omega) x2 (by omega) x2
  have x6 := mulTwo_bd (by omega) x3 (by omega) x3
  have a1 := mulTwo_bd (by omega) hA (by omega) hx
  have a2 := mulTwo_bd (by omega) hA (by omega) x2
  have a4 := mulTwo_bd (by omega) hA (by omega) x4'
  have aa := mulTwo_bd (by omega) hA (by omega) hA
  have aaa := mulTwo_bd (by omega) aa (by omega) hA
  have aa2 := mulTwo_bd (by omega) aa (by omega) x2
  have b1 := mulTwo_bd (by omega) hB (by omega) hx
  have b3 := mulTwo_bd (by omega) hB (by omega) x3
  have ab := mulTwo_bd (by omega) hA (by omega) hB
  have abx := mulTwo_bd (by omega) ab (by omega) hx
  have bb := mulTwo_bd (by omega) hB (by omega) hB
  have hf : -1001010000 ≤ dvF A B x ∧ dvF A B x ≤ 1001010000 := by unfold dvF; omega
  have ff := mulTwo_bd (by omega) hf (by omega) hf
  refine ⟨Sz.of4 ?_ ?_, Sz.of5 ?_ ?_, Sz.of5 ?_ ?_⟩
  · have e : dvT A B x = 3 * (x * x * x * x) + 6 * (A * (x * x)) + 12 * (B * x) - A * A := by unfold dvT; grind
    omega
  · have e : dvT A B x = 3 * (x * x * x * x) + 6 * (A * (x * x)) + 12 * (B * x) - A * A := by unfold dvT; grind
    omega
  · have e : dvQ A B x = 2 * (x * x * x * (x * x * x) + 5 * (A * (x * x * (x * x))) + 20 * (B * (x * x * x)) - 5 * (A * A * (x * x)) - 4 * (A * B * x) - 8 * (B * B) - A * A * A) := by unfold dvQ; grind
    omega
  · have e : dvQ A B x = 2 * (x * x * x * (x * x * x) + 5 * (A * (x * x * (x * x))) + 20 * (B * (x * x * x)) - 5 * (A * A * (x * x)) - 4 * (A * B * x) - 8 * (B * B) - A * A * A) := by unfold dvQ; grind
    omega
  · have e : dwG A B x = 16 * (dvF A B x * dvF A B x) := by unfold dwG; grind
    omega
  · have e : dwG A B x = 16 * (dvF A B x * dvF A B x) := by unfold dwG; grind
    omega
theorem dwL_sz {A B x : Int} (hA : -1000 ≤ A ∧ A ≤ 1000) (hB : -10000 ≤ B ∧ B ≤ 10000) (hx : -1000 ≤ x ∧ x ≤ 1000) : ∀ j i, Sz (ean (szL j) i) (eat (dwL A B x j) i)
  | 0, i => by
    obtain ⟨h3, h4, _⟩ := dv_bds hA hB hx
    match i with
    | 0 => exact Sz.of1 (by show -10000 < (0 : Int); omega) (by show (0 : Int) < 10000; omega)
    | 1 => exact Sz.of1 (by show -10000 < (1 : Int); omega) (by show (1 : Int) < 10000; omega)
    | 2 => exact Sz.of1 (by show -10000 < (1 : Int); omega) (by show (1 : Int) < 10000; omega)
    | 3 => exact h3
    | 4 => exact h4
    | i + 5 => exact Sz.of1 (by show -10000 < (0 : Int); omega) (by show (0 : Int) < 10000; omega)
  | j + 1, i => by
    have ih := dwL_sz hA hB hx j
    obtain ⟨_, _, hg⟩ := dv_bds hA hB hx
    rcases Nat.lt_trichotomy i (5 + j) with h | h | h
    · have e1 : ean (szL (j + 1)) i = ean (szL j) i := by unfold ean; rw [szL, List.getElem?_append_left (by rw [szL_len]; omega)]
      have e2 : eat (dwL A B x (j + 1)) i = eat (dwL A B x j) i := by unfold eat; rw [dwL, List.getElem?_append_left (by rw [dwL_len]; omega)]
      rw [e1, e2]; exact ih i
    · subst h
      have e1 : ean (szL (j + 1)) (5 + j) = szN (szL j) (5 + j) := by unfold ean; rw [szL, List.getElem?_append_right (by rw [szL_len]; omega), szL_len]; simp
      have e2 : eat (dwL A B x (j + 1)) (5 + j) = dwN (dwG A B x) (dwL A B x j) (5 + j) := by unfold eat; rw [dwL, List.getElem?_append_right (by rw [dwL_len]; omega), dwL_len]; simp
      rw [e1, e2]
      generalize 5 + j = k
      unfold dwN szN
      by_cases h2 : k % 2 = 0
      · rw [if_pos h2, if_pos h2]
        exact (ih _).mul ((((ih _).mul ((ih _).mul (ih _))).mono (Nat.le_max_left _ _)).sub (((ih _).mul ((ih _).mul (ih _))).mono (Nat.le_max_right _ _)))
      · rw [if_neg h2, if_neg h2]
        split
        · exact (((((ih _).mul (((ih _).mul (ih _)).mul (ih _))).mul hg)).mono (Nat.le_max_left _ _)).sub (((ih _).mul (((ih _).mul (ih _)).mul (ih _))).mono (Nat.le_trans (Nat.le_add_right _ 5) (Nat.le_max_right _ _)))
        · exact ((((ih _).mul (((ih _).mul (ih _)).mul (ih _)))).mono (Nat.le_trans (Nat.le_add_right _ 5) (Nat.le_max_left _ _))).sub ((((ih _).mul (((ih _).mul (ih _)).mul (ih _))).mul hg).mono (Nat.le_max_right _ _))
    · have e2 : eat (dwL A B x (j + 1)) i = 0 := by unfold eat; rw [List.getElem?_eq_none (by rw [dwL_len]; omega)]; rfl
      have e1 : ean (szL (j + 1)) i = 1 := by unfold ean; rw [List.getElem?_eq_none (by rw [szL_len]; omega)]; rfl
      rw [e1, e2]
      exact Sz.of1 (by omega) (by omega)
theorem szL_le : ((List.range 13).all fun i => decide (ean (szL 8) i ≤ 3000)) = true := by decide +kernel
theorem szL_pre (i j n : Nat) (hn : n < 5 + i) : ean (szL (i + j)) n = ean (szL i) n := by
  induction j with
  | zero => rfl
  | succ j ih =>
    rw [← ih, Nat.add_succ]
    unfold ean
    rw [szL, List.getElem?_append_left (by rw [szL_len]; omega)]
theorem dw_sz {A B x : Int} (hA : -1000 ≤ A ∧ A ≤ 1000) (hB : -10000 ≤ B ∧ B ≤ 10000) (hx : -1000 ≤ x ∧ x ≤ 1000) (j : Nat) (hj : j ≤ 8) (i : Nat) : Sz 3000 (eat (dwL A B x j) i) := by
  refine (dwL_sz hA hB hx j i).mono ?_
  rcases Nat.lt_or_ge i (5 + j) with h | h
  · have h1 := szL_pre j (8 - j) i h
    rw [show j + (8 - j) = 8 by omega] at h1
    rw [← h1]
    simpa using List.all_eq_true.1 szL_le i (by simp; omega)
  · unfold ean
    rw [List.getElem?_eq_none (by rw [szL_len]; omega)]
    simp
end Go.Proofs.YtgjdgcmmlfmhmaaGreatDoor

/- FcW -/
namespace Go.Proofs.YtgjdgcmmlfmhmaaGreatDoor

theorem cgN {p g h : Int} {xs ys : List Int} (k : Nat) (hg : Cg p g h) (he : ∀ i, Cg p (eat xs i) (eat ys i)) : Cg p (dvN p g xs k) (dwN h ys k) := by
  unfold dvN dwN
  split
  · exact (Cg.mod p _).trans ((he _).mul (((he _).mul ((he _).mul (he _))).sub ((he _).mul ((he _).mul (he _)))))
  · split
    · exact (Cg.mod p _).trans ((((he _).mul (((he _).mul (he _)).mul (he _))).mul hg).sub ((he _).mul (((he _).mul (he _)).mul (he _))))
    · exact (Cg.mod p _).trans (((he _).mul (((he _).mul (he _)).mul (he _))).sub (((he _).mul (((he _).mul (he _)).mul (he _))).mul hg))
theorem cgF (A B : Int) {p x y : Int} (h : Cg p x y) : Cg p (dvF A B x) (dvF A B y) := by
  unfold dvF
  exact (((h.mul h).mul h).add ((Cg.refl p A).mul h)).add (Cg.refl p B)
theorem cgT (A B : Int) {p x y : Int} (h : Cg p x y) : Cg p (dvT A B x) (dvT A B y) := by
  unfold dvT
  have r : ∀ c, Cg p c c := Cg.refl p
  exact ((((((r 3).mul h).mul h).mul h).mul h).add ((((r 6).mul (r A)).mul h).mul h)).add (((r 12).mul (r B)).mul h) |>.sub ((r A).mul (r A))
theorem cgQ (A B : Int) {p x y : Int} (h : Cg p x y) : Cg p (dvQ A B x) (dvQ A B y) := by
  unfold dvQ
  have r : ∀ c, Cg p c c := Cg.refl p
  have h2 := h.mul h
  have h3 := h2.mul h
  exact (r 2).mul (((((((h3.mul h3).add ((((r 5).mul (r A)).mul h2).mul h2)).add (((r 20).mul (r B)).mul h3)).sub (((r 5).mul ((r A).mul (r A))).mul h2)).sub ((((r 4).mul (r A)).mul (r B)).mul h)).sub (((r 8).mul (r B)).mul (r B))).sub (((r A).mul (r A)).mul (r A)))
theorem cgL (A B p x y : Int) (h : Cg p x y) : ∀ j i, Cg p (eat (dvL A B p x j) i) (eat (dwL A B y j) i)
  | 0, i => by
    rcases i with _ | _ | _ | _ | _ | i
    · exact Cg.refl p 0
    · exact Cg.refl p 1
    · exact Cg.refl p 1
    · exact (Cg.mod p _).trans (cgT A B h)
    · exact (Cg.mod p _).trans (cgQ A B h)
    · exact Cg.refl p 0
  | j + 1, i => by
    have ih := cgL A B p x y h j
    rw [dvL, dwL]
    unfold eat
    rw [List.getElem?_append, List.getElem?_append, dvL_len, dwL_len]
    split
    · exact ih i
    · rcases hi : i - (5 + j) with _ | m
      · exact cgN (5 + j) ((Cg.mod p _).trans (((Cg.refl p 16).mul (cgF A B h)).mul (cgF A B h))) ih
      · exact Cg.refl p 0
/-- the residue of a whole -/
theorem dwE_mod (A B q y : Int) (n : Nat) (hq : 5 ≤ q) : dwE A B y n % q = dvE A B q (y % q) n := by
  have h : Cg q (dvE A B q (y % q) n) (dwE A B y n) := cgL A B q (y % q) y (Cg.mod q y) (n - 4) n
  have hb := eat_bd (A := A) (B := B) (x := y % q) hq (n - 4) n
  have h2 : dvE A B q (y % q) n % q = dwE A B y n % q := h
  rw [← h2]
  exact Int.emod_eq_of_lt hb.1 hb.2
end Go.Proofs.YtgjdgcmmlfmhmaaGreatDoor

/- DvU -/
namespace Go.Proofs.YtgjdgcmmlfmhmaaGreatDoor
open Go.RowKit

noncomputable def restR21 : Code := (Tryz.f3.body.bind (restAt 21)).getD .skip
/-- what is known of a whole -/
def WhF (C D y k : Int) (R : Nat) (seven : Bool) (w : World) : Prop := seven = true → ∃ M ad cap, Blk R #[.bool (decide (M < 0)), .slice ad (dg M.natAbs).length cap] 37 w ∧ RdL w (.slice ad (dg M.natAbs).length cap) (dg M.natAbs) ∧ okW M = true ∧ M = dwE C D y k.toNat ∧ (-1000 ≤ y ∧ y ≤ 1000) ∧ (1 ≤ k ∧ k ≤ 12)
theorem res_mod {y q : Int} (hq : 5 ≤ q) : (y.tmod q + q) % q = y % q ∧ (y.tmod q + q).tmod q = y % q ∧ -q < y.tmod q ∧ y.tmod q < q := by
  have h1 := Int.tmod_lt_of_pos y (show 0 < q by omega)
  have h2 : -q < y.tmod q := by
    have := Int.tmod_lt_of_pos (-y) (show 0 < q by omega)
    rw [Int.neg_tmod] at this
    omega
  have h3 : (y.tmod q + q) % q = y % q := by
    rw [Int.add_emod_right]
    have h4 := Int.tmod_add_mul_tdiv y q
    have h5 : y % q = (y.tmod q + q * y.tdiv q) % q := by rw [h4]
    rw [h5, Int.add_mul_emod_self_left]
  refine ⟨h3, ?_, h2, h1⟩
  rw [Int.tmod_eq_emod_of_nonneg (by omega)]
  exact h3
set_option maxRecDepth 1000000 in
set_option maxHeartbeats 4000000 in
theorem r21 {Q0 : Exit → Act → World → Prop} {x0 x1 x2 x3 x4 x9 x12 x13 x14 x15 x16 x17 x18 x19 x20 x21 x22 x23 x24 x28 x31 x32 x33 x34 x35 x36 x37 x38 x39 x40 x41 x42 x43 x44 x45 x46 x47 x48 x49 x50 x51 x52 x53 x54 x55 x56 x57 x58 x59 x60 x61 x62 x63 x64 x65 x66 x67 x68 x69 x70 x71 x72 x73 x74 x75 x76 x77 x78 x79 x80 x81 x82 x83 x84 x85 x86 x87 x88 x89 x90 x91 x92 x93 x94 x95 x96 x97 x98 x99 x100 x101 x102 x103 x104 x105 x106 x107 x108 x109 x110 x111 x112 x113 x114 x115 x116 x117 x118 x119 x120 x121 x122 x123 x124 x125 x126 x127 x128 x129 x130 x131 x132 x133 x134 x135 x136 x137 x138 x139 x140 x141 x142 x143 x144 x145 x146 x147 x148 x149 x150 x151 x152 x153 x154 x155 x156 x157 x158 x159 x160 x161 x162 x163 x164 x165 x166 x167 x168 x169 x170 x171 x172 x173 x174 x175 x176 x177 x178 x179 x180 x181 x182 x183 x184 x185 x186 x187 x188 x189 x190 x191 x192 x193 x194 x195 x196 x197 x198 x199 x200 x201 x202 x203 x204 x205 x206 x207 x208 x209 x210 x211 x212 x213 x214 x215 x216 x217 x218 x219 x220 x221 x222 x223 x224 x225 x226 x227 x228 x229 x230 x231 x232 x233 x234 x235 x236 x237 x238 x239 x240 x241 x242 x243 x244 x245 x246 x247 x248 x249 x250 x251 x252 x253 x254 x255 x256 x257 x258 x259 x260 x261 x262 x263 x264 x265 x266 x267 x268 x269 x270 x271 x272 x273 x274 x275 x276 x277 x278 x279 x280 x281 x282 x283 x284 x285 x286 x287 x288 x289 x290 x291 x292 x293 x294 x295 x296 x297 x298 x299 x300 x301 x302 x303 x304 x305 x306 x307 x308 x309 x310 x311 x312 x313 x314 x315 x316 x317 x318 x319 x320 x321 x322 x323 x324 x325 x326 x327 x328 x329 x330 x331 x332 x333 x334 x335 x336 x337 x338 x339 x340 x341 x342 x343 x344 x345 x346 x347 x348 x349 x350 x351 x352 x353 x354 x355 x356 x357 x358 x359 x360 x361 x362 x363 x364 x365 x366 x367 x368 x369 x370 x371 x372 x373 x374 x375 x376 x377 x378 x379 x380 x381 x382 x383 x384 x385 x386 x387 x388 x389 x390 x391 x392 x393 x394 x395 x396 x397 x398 x399 x400 x401 x402 x403 x404 x405 x406 x407 x408 x409 : Value} (E' : Nat) (A B p x n : Int) (ok : Bool) (m : Int) (E : Nat) (C D y k : Int) (seven : Bool) (R : Nat) (w : World) (hx' : Bx E' (.int .i64 A) (.int .i64 B) w) (HM : Hid (MulF A B p x n ok m)) (hx : Bx E (.int .i64 C) (.int .i64 D) w) (HW : Hid (WhF C D y k R seven w)) (hret : ∀ a w', Done 4 w a w' → Q0 .ret a w') :
    Code.wp Tryz.prog restR21 Q0 ⟨(x0 :: x1 :: x2 :: x3 :: x4 :: .pointer (some ⟨E', 0, none⟩) :: .int .i64 p :: .int .i64 x :: .int .i64 n :: x9 :: .bool ok :: .int .i64 m :: x12 :: x13 :: x14 :: x15 :: x16 :: x17 :: x18 :: x19 :: x20 :: x21 :: x22 :: x23 :: x24 :: .pointer (some ⟨E, 0, none⟩) :: .int .i64 y :: .int .i64 k :: x28 :: .bool seven :: .pointer (some ⟨R, 0, none⟩) :: x31 :: x32 :: x33 :: x34 :: x35 :: x36 :: x37 :: x38 :: x39 :: x40 :: x41 :: x42 :: x43 :: x44 :: x45 :: x46 :: x47 :: x48 :: x49 :: x50 :: x51 :: x52 :: x53 :: x54 :: x55 :: x56 :: x57 :: x58 :: x59 :: x60 :: x61 :: x62 :: x63 :: x64 :: x65 :: x66 :: x67 :: x68 :: x69 :: x70 :: x71 :: x72 :: x73 :: x74 :: x75 :: x76 :: x77 :: x78 :: x79 :: x80 :: x81 :: x82 :: x83 :: x84 :: x85 :: x86 :: x87 :: x88 :: x89 :: x90 :: x91 :: x92 :: x93 :: x94 :: x95 :: x96 :: x97 :: x98 :: x99 :: x100 :: x101 :: x102 :: x103 :: x104 :: x105 :: x106 :: x107 :: x108 :: x109 :: x110 :: x111 :: x112 :: x113 :: x114 :: x115 :: x116 :: x117 :: x118 :: x119 :: x120 :: x121 :: x122 :: x123 :: x124 :: x125 :: x126 :: x127 :: x128 :: x129 :: x130 :: x131 :: x132 :: x133 :: x134 :: x135 :: x136 :: x137 :: x138 :: x139 :: x140 :: x141 :: x142 :: x143 :: x144 :: x145 :: x146 :: x147 :: x148 :: x149 :: x150 :: x151 :: x152 :: x153 :: x154 :: x155 :: x156 :: x157 :: x158 :: x159 :: x160 :: x161 :: x162 :: x163 :: x164 :: x165 :: x166 :: x167 :: x168 :: x169 :: x170 :: x171 :: x172 :: x173 :: x174 :: x175 :: x176 :: x177 :: x178 :: x179 :: x180 :: x181 :: x182 :: x183 :: x184 :: x185 :: x186 :: x187 :: x188 :: x189 :: x190 :: x191 :: x192 :: x193 :: x194 :: x195 :: x196 :: x197 :: x198 :: x199 :: x200 :: x201 :: x202 :: x203 :: x204 :: x205 :: x206 :: x207 :: x208 :: x209 :: x210 :: x211 :: x212 :: x213 :: x214 :: x215 :: x216 :: x217 :: x218 :: x219 :: x220 :: x221 :: x222 :: x223 :: x224 :: x225 :: x226 :: x227 :: x228 :: x229 :: x230 :: x231 :: x232 :: x233 :: x234 :: x235 :: x236 :: x237 :: x238 :: x239 :: x240 :: x241 :: x242 :: x243 :: x244 :: x245 :: x246 :: x247 :: x248 :: x249 :: x250 :: x251 :: x252 :: x253 :: x254 :: x255 :: x256 :: x257 :: x258 :: x259 :: x260 :: x261 :: x262 :: x263 :: x264 :: x265 :: x266 :: x267 :: x268 :: x269 :: x270 :: x271 :: x272 :: x273 :: x274 :: x275 :: x276 :: x277 :: x278 :: x279 :: x280 :: x281 :: x282 :: x283 :: x284 :: x285 :: x286 :: x287 :: x288 :: x289 :: x290 :: x291 :: x292 :: x293 :: x294 :: x295 :: x296 :: x297 :: x298 :: x299 :: x300 :: x301 :: x302 :: x303 :: x304 :: x305 :: x306 :: x307 :: x308 :: x309 :: x310 :: x311 :: x312 :: x313 :: x314 :: x315 :: x316 :: x317 :: x318 :: x319 :: x320 :: x321 :: x322 :: x323 :: x324 :: x325 :: x326 :: x327 :: x328 :: x329 :: x330 :: x331 :: x332 :: x333 :: x334 :: x335 :: x336 :: x337 :: x338 :: x339 :: x340 :: x341 :: x342 :: x343 :: x344 :: x345 :: x346 :: x347 :: x348 :: x349 :: x350 :: x351 :: x352 :: x353 :: x354 :: x355 :: x356 :: x357 :: x358 :: x359 :: x360 :: x361 :: x362 :: x363 :: x364 :: x365 :: x366 :: x367 :: x368 :: x369 :: x370 :: x371 :: x372 :: x373 :: x374 :: x375 :: x376 :: x377 :: x378 :: x379 :: x380 :: x381 :: x382 :: x383 :: x384 :: x385 :: x386 :: x387 :: x388 :: x389 :: x390 :: x391 :: x392 :: x393 :: x394 :: x395 :: x396 :: x397 :: x398 :: x399 :: x400 :: x401 :: x402 :: x403 :: x404 :: x405 :: x406 :: x407 :: x408 :: x409 :: []).toArray, []⟩ w := by
  conv => arg 2; whnf
  go_upto_if 268 with (fail)
  go_cut [] from 410 (fun wc => Below w.heap.size w wc)
  case rest =>
    apply_assumption
    exact r35 E' A B p x n ok m _ (hx'.below hcut) HM (fun a w' hd => hret a w' ⟨hd.1, hd.2.1, below_step hd.2.2 hcut.size hcut⟩)
  case first =>
    clear HM hx' hret
    cases seven
    · go_wp2
      go_meet
      case rel => exact Below.refl _ _
    · obtain ⟨M, ad, cap, kW, rW, hok, hM, hy, hk⟩ := HW.out rfl
      have hb0 : Below w.heap.size w (w.alloc (.cells #[.int .i64 5, .int .i64 7, .int .i64 97] 3)) := (Below.refl _ _).alloc (Nat.le_refl _) _
      have kL := Blk.new w #[.int .i64 5, .int .i64 7, .int .i64 97] 3
      have HO := Lib.hid hok
      have HD : Hid (∀ q, 5 ≤ q → M % q = dvE C D q (y % q) k.toNat) := Lib.hid fun q hq => by rw [hM]; exact dwE_mod C D q y _ hq
      replace kW := kW.next hb0
      replace rW := rW.below hb0
      replace hx := hx.below hb0
      have hsz := hb0.size
      clear hok hM HW
      go_upto_region 23 with (fail)
      generalize w.alloc _ = W at *
      generalize hr0 : w.heap.size = r0 at *
      go_loopw [271] (fun iv wr => ∃ j : Nat, j ≤ 3 ∧ iv = .int .i64 j ∧ Below W.heap.size W wr) (fun iv _ => 3 - (intOf iv).toNat)
      case atStart => exact ⟨0, by omega, rfl, Below.refl _ _⟩
      case round =>
        obtain ⟨j, hj, rfl, hbl⟩ := hrel
        have zl := hbl.size
        by_cases hlt : j < 3
        · obtain ⟨q, hq, c0⟩ : ∃ q : Int, (5 ≤ q ∧ q ≤ 97) ∧ wr.cell? ⟨r0, j, none⟩ = some (.int .i64 q) := by
            have k2 := kL.next hbl
            rcases (by omega : j = 0 ∨ j = 1 ∨ j = 2) with rfl | rfl | rfl
            · exact ⟨5, by omega, k2.cell 0⟩
            · exact ⟨7, by omega, k2.cell 1⟩
            · exact ⟨97, by omega, k2.cell 2⟩
          have hlt' : (j : Int) < 3 := by omega
          have i0 : (0 : Int) ≤ (j : Int) := by omega
          have hq0 : (q == 0) = false := by simp; omega
          obtain ⟨v1, v2, v3, v4⟩ := res_mod (y := y) hq.1
          have V1 := Lib.hid v1
          have V2 := Lib.hid v2
          have lR : r0 < wr.heap.size := (kL.next hbl).lt
          have H1 := Lib.hid (fun W => c_iDivisionModulo C D q (y % q) k W)
          have H2 := Lib.hid (fun W => c_sDivisionModulo C D q (y % q) k W)
          have hd := HD.out q hq.1
          have H3 := Lib.hid (fun (a : Value) (W : World) (h : WhR M a W) => c_divideWhole M q HO.out hq a W h)
          rw [hd] at H3
          have xr := hx.below hbl
          have kR := kW.next hbl
          have rR := rW.below hbl
          clear v1 v2 hd
          generalize hT : y.tmod q = T at *
          go_upto_region 26 with (fail)
          rw [V1.out]
          clear V1 V2 hT v3 v4 c0
          have hres : 0 ≤ y % q ∧ y % q < q := ⟨Int.emod_nonneg _ (by omega), Int.emod_lt_of_pos _ (by omega)⟩
          generalize y % q = r at *
          generalize dvOk C D q r k = was at *
          have HE : Hid (was = true → rsZ was (dvE C D q r k.toNat) = dvE C D q r k.toNat) := Lib.hid (by rintro rfl; rfl)
          generalize hkn : rsZ was (dvE C D q r k.toNat) = known at *
          clear hkn
          obtain ⟨f0, f1, _, _, f4⟩ := id xr
          go_wp2_with fail
          refine (H1.out _).mono ?_
          rintro e w1 ⟨rfl, hb1⟩
          have x1 := xr.below hb1
          have k1 := kR.next hb1
          have r1 := rR.below hb1
          have b1 := below_step hb1 zl hbl
          clear f0 f1 f4 H1 xr kR rR
          obtain ⟨f0, f1, _, _, f4⟩ := id x1
          go_wp2_with fail
          refine (H2.out _).mono ?_
          rintro e w2 ⟨rfl, hb2⟩
          have k2 := k1.next hb2
          have r2 := r1.below hb2
          have b2 := below_step hb2 b1.size b1
          have z2 := b2.size
          clear f0 f1 f4 H2 x1 k1 r1
          cases was
          · go_wp2
            go_roundw
            case rel => exact ⟨j + 1, by omega, by go_num, b2⟩
            case measure => simp [intOf]; omega
          · have hE := HE.out rfl
            rw [← hE] at H3
            clear HE hE
            have g0 : w2.cell? ⟨R, 0, none⟩ = some (.bool (decide (M < 0))) := k2.cell 0
            have g1 : w2.cell? ⟨R, 1, none⟩ = some (.slice ad (dg M.natAbs).length cap) := k2.cell 1
            have gl := k2.lt
            go_wp2_with fail
            refine (H3.out _ _ ⟨_, rfl, r2⟩).mono ?_
            rintro e w3 ⟨b, xx, l, c, rfl, hb3⟩
            have b3 := below_step hb3 z2 b2
            have b4 := b3.alloc (by have := b3.size; omega) (.cells #[.bool b, .slice xx l c] 37)
            go_wp2
            go_roundw
            case rel => exact ⟨j + 1, by omega, by go_num, b4⟩
            case measure => simp [intOf]; omega
        · obtain rfl : j = 3 := by omega
          have hbb := below_step hbl hsz hb0
          go_wp2
          go_meet
          case rel => first | exact hbb | exact hr0 ▸ hbb
end Go.Proofs.YtgjdgcmmlfmhmaaGreatDoor
