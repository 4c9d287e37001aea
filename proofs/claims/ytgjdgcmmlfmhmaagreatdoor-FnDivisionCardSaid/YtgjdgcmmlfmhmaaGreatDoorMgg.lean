/- Several texts joined: FcQ Rest DvT. -/
import Derived.Test.YtgjdgcmmlfmhmaaGreatDoorMgd
import Derived.Test.YtgjdgcmmlfmhmaaGreatDoorMge
import Derived.Test.YtgjdgcmmlfmhmaaGreatDoorMgf
import Derived.Test.YtgjdgcmmlfmhmaaGreatDoorFcU
import Derived.Test.YtgjdgcmmlfmhmaaGreatDoorCurve
import Derived.Deep.Cut
import Derived.Test.YtgjdgcmmlfmhmaaGreatDoorMgc
/- FcQ -/
namespace Go.Proofs.YtgjdgcmmlfmhmaaGreatDoor

theorem small_prime {p : Int} (h : primeB p = true) (h5 : 5 ≤ p) (h31 : p ≤ 31) : p = 5 ∨ p = 7 ∨ p = 11 ∨ p = 13 ∨ p = 17 ∨ p = 19 ∨ p = 23 ∨ p = 29 ∨ p = 31 := by
  have hn := (primeB_true h).2
  rcases (by omega : p = 5 ∨ p = 6 ∨ p = 7 ∨ p = 8 ∨ p = 9 ∨ p = 10 ∨ p = 11 ∨ p = 12 ∨ p = 13 ∨ p = 14 ∨ p = 15 ∨ p = 16 ∨ p = 17 ∨ p = 18 ∨ p = 19 ∨ p = 20 ∨ p = 21 ∨ p = 22 ∨ p = 23 ∨ p = 24 ∨ p = 25 ∨ p = 26 ∨ p = 27 ∨ p = 28 ∨ p = 29 ∨ p = 30 ∨ p = 31) with rfl | rfl | rfl | rfl | rfl | rfl | rfl | rfl | rfl | rfl | rfl | rfl | rfl | rfl | rfl | rfl | rfl | rfl | rfl | rfl | rfl | rfl | rfl | rfl | rfl | rfl | rfl <;>
    first | (simp; done) | exact absurd (by decide) (hn 2 (by decide) (by decide)) | exact absurd (by decide) (hn 3 (by decide) (by decide)) | exact absurd (by decide) (hn 5 (by decide) (by decide))
theorem fc_all {A B x y p n : Int} (hf : fitB A B p x = true) (h31 : p ≤ 31) (hy : 0 ≤ y ∧ y < p) (hon : y * y % p = fV A B x % p) (hn : 1 ≤ n ∧ n ≤ 12) (hz : zB A B p x n = false) :
    ∃ X Y, fmT (fmS A p) 5 n none (some (x, y)) = some (X, Y) ∧ fmT (fmI A p) 5 n none (some (x, y)) = some (X, Y) ∧ X = mxV A B p x n.toNat := by
  obtain ⟨_, _, h5, hpr, hx⟩ := fit_of hf
  have hd : disc A B % p ≠ 0 := by
    unfold fitB goodP at hf
    simp only [Bool.and_eq_true] at hf
    simpa using hf.1.2.2
  have hs := small_prime hpr h5.1 h31
  obtain ⟨q, rfl⟩ := Int.eq_ofNat_of_zero_le (show 0 ≤ p by omega)
  have hq : nAll q (nRow q) = true := by
    rcases (by omega : q = 5 ∨ q = 7 ∨ q = 11 ∨ q = 13 ∨ q = 17 ∨ q = 19 ∨ q = 23 ∨ q = 29 ∨ q = 31) with rfl | rfl | rfl | rfl | rfl | rfl | rfl | rfl | rfl
    · exact row5
    · exact row7
    · exact row11
    · exact row13
    · exact row17
    · exact row19
    · exact row23
    · exact row29
    · exact row31
  exact fc_nat hq (by omega) (by omega) ⟨hx.1, by omega⟩ hy hd hon n hn hz
/-! residues that are squares -/
def sqB (q f : Nat) : Bool := decide (0 ≤ symS f q) == !(nAll q fun y => !((y * y) % q).beq f)
def sqAll (q : Nat) : Bool := nAll q (sqB q)
theorem nAll_ex {n : Nat} {f : Nat → Bool} (h : nAll n f = false) : ∃ i, i < n ∧ f i = false := by
  induction n with
  | zero => cases h
  | succ n ih =>
    unfold nAll at h
    rw [Bool.and_eq_false_iff] at h
    rcases h with h | h
    · exact ⟨n, by omega, h⟩
    · obtain ⟨i, h1, h2⟩ := ih h
      exact ⟨i, by omega, h2⟩
set_option maxRecDepth 100000 in
theorem sq_all {q : Nat} (h : q = 5 ∨ q = 7 ∨ q = 11 ∨ q = 13 ∨ q = 17 ∨ q = 19 ∨ q = 23 ∨ q = 29 ∨ q = 31) : sqAll q = true := by
  rcases h with rfl | rfl | rfl | rfl | rfl | rfl | rfl | rfl | rfl <;> decide +kernel
theorem lies_pt {A B p x : Int} (hf : fitB A B p x = true) (h31 : p ≤ 31) : liesV A B p x = true ↔ ∃ y, (0 ≤ y ∧ y < p) ∧ y * y % p = fV A B x % p := by
  obtain ⟨_, _, h5, hpr, hx⟩ := fit_of hf
  have hs := small_prime hpr h5.1 h31
  obtain ⟨q, rfl⟩ := Int.eq_ofNat_of_zero_le (show 0 ≤ p by omega)
  have hq := sq_all (q := q) (by omega)
  have b1 := Int.emod_nonneg (fV A B x) (show (q : Int) ≠ 0 by omega)
  have b2 := Int.emod_lt_of_pos (fV A B x) (show (0 : Int) < q by omega)
  unfold liesV
  rw [← symS_mod]
  obtain ⟨f, hf2⟩ := Int.eq_ofNat_of_zero_le b1
  rw [hf2] at b2 ⊢
  have h1 := nAll_of hq f (by omega)
  unfold sqB at h1
  rw [eq_of_beq h1]
  constructor
  · intro h
    obtain ⟨y, h2, h3⟩ := nAll_ex (by simpa using h)
    have h4 := Nat.eq_of_beq_eq_true (by simpa using h3 : ((y * y) % q).beq f = true)
    exact ⟨y, ⟨by omega, by omega⟩, by rw [← h4]; simp⟩
  · rintro ⟨y, ⟨h2, h3⟩, h4⟩
    obtain ⟨y, rfl⟩ := Int.eq_ofNat_of_zero_le h2
    have h5 : (y * y) % q = f := by
      rw [← Int.natCast_mul, ← Int.natCast_emod] at h4
      exact Int.ofNat_inj.1 h4
    cases h6 : nAll q fun y => !((y * y) % q).beq f
    · rfl
    · have h7 := nAll_of h6 y (by omega)
      rw [h5, Nat.beq_refl] at h7
      cases h7
theorem fnd_lies {A B p x : Int} (hf : fitB A B p x = true) (h31 : p ≤ 31) : fnd x (fmPt A B p p.toNat) = liesV A B p x := by
  obtain ⟨_, _, h5, hpr, hx⟩ := fit_of hf
  rw [Bool.eq_iff_iff, lies_pt hf h31]
  unfold fnd
  rw [List.any_eq_true]
  constructor
  · rintro ⟨s, h1, h2⟩
    rcases fmPt_mem.1 h1 with rfl | ⟨a, y, _, h4, h6, rfl⟩
    · cases h2
    · have h7 : (a : Int) = x := by simpa using h2
      rw [h7] at h6
      exact ⟨y, ⟨by omega, by omega⟩, h6⟩
  · rintro ⟨y, ⟨h1, h2⟩, h3⟩
    obtain ⟨x, rfl⟩ := Int.eq_ofNat_of_zero_le hx.1
    obtain ⟨y, rfl⟩ := Int.eq_ofNat_of_zero_le h1
    exact ⟨_, fmPt_mem.2 (.inr ⟨x, y, by omega, by omega, h3, rfl⟩), by simp⟩
end Go.Proofs.YtgjdgcmmlfmhmaaGreatDoor

/- Rest -/
namespace Go.Proofs.YtgjdgcmmlfmhmaaGreatDoor
open Go.RowKit

def firstReg : Code → Option Nat
  | .region i _ _ => some i
  | .seq a _ => firstReg a
  | .block _ c => firstReg c
  | .loop c => firstReg c
  | .scope c => firstReg c
  | _ => none
def restAt (n : Nat) : Code → Option Code
  | .seq a b => if firstReg a == some n then some (.seq a b) else match restAt n a with
    | some c => some c
    | none => restAt n b
  | .block _ c => restAt n c
  | .loop c => restAt n c
  | .scope c => restAt n c
  | .cond _ a b => match restAt n a with
    | some c => some c
    | none => restAt n b
  | _ => none
def headOf : Code → Code
  | .seq a _ => a
  | c => c
def tailOf : Code → Code
  | .seq _ b => b
  | c => c
/-- the law is about to answer true (r: the slot of its result) -/
def Done (r : Nat) (w : World) (a : Act) (w' : World) : Prop := a.tmps[r]? = some (.bool true) ∧ a.defers = [] ∧ Below w.heap.size w w'
end Go.Proofs.YtgjdgcmmlfmhmaaGreatDoor

/- DvT -/
namespace Go.Proofs.YtgjdgcmmlfmhmaaGreatDoor
open Go.RowKit

theorem c_qInts (v v' : Value) (xs : List Int) (hL : xs.length ≤ 100000000) (w : World) (h1 : RdI w v xs) (h2 : RdI w v' xs) :
    Calls Tryz.prog 18 #[v, v'] w fun e w' => e = .returned (.bool true) ∧ Below w.heap.size w w' := by
  obtain ⟨a, cap, rfl, hform⟩ := h1
  obtain ⟨a', cap', rfl, hform'⟩ := h2
  have HF := Lib.hid hform
  have HF' := Lib.hid hform'
  clear hform hform'
  go_enter Tryz.func18, Tryz.ntmps18
  go_wp2
  go_loopw [13] (fun i wr => ∃ k : Nat, k ≤ xs.length ∧ i = .int .i64 k ∧ Below w.heap.size w wr) (fun i _ => xs.length - (intOf i).toNat)
  case atStart => exact ⟨0, Nat.zero_le _, rfl, Below.refl _ _⟩
  case round =>
    obtain ⟨k, hk, rfl, hbl⟩ := hrel
    by_cases hlt : k < xs.length
    · obtain ⟨g, o, rfl, q1, hg⟩ := HF.out k hlt
      obtain ⟨g', o', rfl, r1, hg'⟩ := HF'.out k hlt
      have q2 := (hbl.cell (p := ⟨g, o + k, none⟩) hg).trans q1
      have r2 := (hbl.cell (p := ⟨g', o' + k, none⟩) hg').trans r1
      clear q1 r1
      generalize xs[k]?.getD 0 = y at q2 r2
      have i0 : (0 : Int) ≤ (k : Int) := by omega
      have i1 : (k : Int) < (xs.length : Int) := by omega
      go_wp2
      go_quiet (fail)
      go_wp2
      go_roundw
      case rel => exact ⟨k + 1, by omega, by go_num, below_drewN hbl _⟩
      case measure => simp [intOf]; omega
    · obtain rfl : k = xs.length := by omega
      go_wp2
      go_ret
      exact ⟨rfl, hbl⟩
theorem c_qWhole (s : Bool) (v v' : Value) (L : List Int) (hL : L.length ≤ 100000) (w : World) (h : RdL w v L) (h' : RdL w v' L) :
    Calls Tryz.prog 19 #[.agg #[.bool s, v], .agg #[.bool s, v']] w fun e w' => e = .returned (.bool true) ∧ Below w.heap.size w w' := by
  have kA := (Blk.new w #[.bool s, v] 37).alloc (.cells #[.bool s, v'] 37)
  have kB := Blk.new (w.alloc (.cells #[.bool s, v] 37)) #[.bool s, v'] 37
  simp only [World.size_alloc] at kB
  have hb0 : Below w.heap.size w ((w.alloc (.cells #[.bool s, v] 37)).alloc (.cells #[.bool s, v'] 37)) := ((Below.refl _ _).alloc (Nat.le_refl _) _).alloc (by simp) _
  have HE := Lib.hid (c_qInts v v' L (by omega) _ (h.below hb0).rd (h'.below hb0).rd)
  have hsz := hb0.size
  clear h h'
  go_enter Tryz.func19, Tryz.ntmps19
  go_upto_region 1 with (fail)
  generalize (w.alloc _).alloc _ = W at *
  have a0 : W.cell? ⟨w.heap.size, 0, none⟩ = some (.bool s) := kA.cell 0
  have a1 : W.cell? ⟨w.heap.size, 1, none⟩ = some v := kA.cell 1
  have b0 : W.cell? ⟨w.heap.size + 1, 0, none⟩ = some (.bool s) := kB.cell 0
  have b1 : W.cell? ⟨w.heap.size + 1, 1, none⟩ = some v' := kB.cell 1
  go_wp2_with fail
  refine HE.out.mono ?_
  rintro e w1 ⟨rfl, hb1⟩
  go_wp2
  go_ret
  exact ⟨rfl, below_step hb1 hsz hb0⟩
noncomputable def restR35 : Code := (Tryz.f3.body.bind (restAt 35)).getD .skip
def isX (x : Int) : Option (Int × Int) → Bool
  | none => false
  | some q => q.1 == x
theorem fnd_take (x : Int) (L : List (Option (Int × Int))) (j : Nat) (h : j < L.length) : fnd x (L.take (j + 1)) = (fnd x (L.take j) || isX x L[j]) := by
  unfold fnd
  rw [List.take_add_one, List.getElem?_eq_getElem h, List.any_append]
  cases L[j] <;> simp [isX]
/-- what is known of a multiple -/
def MulF (A B p x n : Int) (ok : Bool) (m : Int) : Prop := ok = true → fitB A B p x = true ∧ 1 ≤ n ∧ zB A B p x n = false ∧ m = mxV A B p x n.toNat
set_option maxRecDepth 1000000 in
set_option maxHeartbeats 4000000 in
theorem r35 {Q0 : Exit → Act → World → Prop} {x0 x1 x2 x3 x4 x9 x12 x13 x14 x15 x16 x17 x18 x19 x20 x21 x22 x23 x24 x25 x26 x27 x28 x29 x30 x31 x32 x33 x34 x35 x36 x37 x38 x39 x40 x41 x42 x43 x44 x45 x46 x47 x48 x49 x50 x51 x52 x53 x54 x55 x56 x57 x58 x59 x60 x61 x62 x63 x64 x65 x66 x67 x68 x69 x70 x71 x72 x73 x74 x75 x76 x77 x78 x79 x80 x81 x82 x83 x84 x85 x86 x87 x88 x89 x90 x91 x92 x93 x94 x95 x96 x97 x98 x99 x100 x101 x102 x103 x104 x105 x106 x107 x108 x109 x110 x111 x112 x113 x114 x115 x116 x117 x118 x119 x120 x121 x122 x123 x124 x125 x126 x127 x128 x129 x130 x131 x132 x133 x134 x135 x136 x137 x138 x139 x140 x141 x142 x143 x144 x145 x146 x147 x148 x149 x150 x151 x152 x153 x154 x155 x156 x157 x158 x159 x160 x161 x162 x163 x164 x165 x166 x167 x168 x169 x170 x171 x172 x173 x174 x175 x176 x177 x178 x179 x180 x181 x182 x183 x184 x185 x186 x187 x188 x189 x190 x191 x192 x193 x194 x195 x196 x197 x198 x199 x200 x201 x202 x203 x204 x205 x206 x207 x208 x209 x210 x211 x212 x213 x214 x215 x216 x217 x218 x219 x220 x221 x222 x223 x224 x225 x226 x227 x228 x229 x230 x231 x232 x233 x234 x235 x236 x237 x238 x239 x240 x241 x242 x243 x244 x245 x246 x247 x248 x249 x250 x251 x252 x253 x254 x255 x256 x257 x258 x259 x260 x261 x262 x263 x264 x265 x266 x267 x268 x269 x270 x271 x272 x273 x274 x275 x276 x277 x278 x279 x280 x281 x282 x283 x284 x285 x286 x287 x288 x289 x290 x291 x292 x293 x294 x295 x296 x297 x298 x299 x300 x301 x302 x303 x304 x305 x306 x307 x308 x309 x310 x311 x312 x313 x314 x315 x316 x317 x318 x319 x320 x321 x322 x323 x324 x325 x326 x327 x328 x329 x330 x331 x332 x333 x334 x335 x336 x337 x338 x339 x340 x341 x342 x343 x344 x345 x346 x347 x348 x349 x350 x351 x352 x353 x354 x355 x356 x357 x358 x359 x360 x361 x362 x363 x364 x365 x366 x367 x368 x369 x370 x371 x372 x373 x374 x375 x376 x377 x378 x379 x380 x381 x382 x383 x384 x385 x386 x387 x388 x389 x390 x391 x392 x393 x394 x395 x396 x397 x398 x399 x400 x401 x402 x403 x404 x405 x406 x407 x408 x409 : Value} (E : Nat) (A B p x n : Int) (ok : Bool) (m : Int) (w : World) (hx : Bx E (.int .i64 A) (.int .i64 B) w) (HM : Hid (MulF A B p x n ok m)) (hret : ∀ a w', Done 4 w a w' → Q0 .ret a w') :
    Code.wp Tryz.prog restR35 Q0 ⟨(x0 :: x1 :: x2 :: x3 :: x4 :: .pointer (some ⟨E, 0, none⟩) :: .int .i64 p :: .int .i64 x :: .int .i64 n :: x9 :: .bool ok :: .int .i64 m :: x12 :: x13 :: x14 :: x15 :: x16 :: x17 :: x18 :: x19 :: x20 :: x21 :: x22 :: x23 :: x24 :: x25 :: x26 :: x27 :: x28 :: x29 :: x30 :: x31 :: x32 :: x33 :: x34 :: x35 :: x36 :: x37 :: x38 :: x39 :: x40 :: x41 :: x42 :: x43 :: x44 :: x45 :: x46 :: x47 :: x48 :: x49 :: x50 :: x51 :: x52 :: x53 :: x54 :: x55 :: x56 :: x57 :: x58 :: x59 :: x60 :: x61 :: x62 :: x63 :: x64 :: x65 :: x66 :: x67 :: x68 :: x69 :: x70 :: x71 :: x72 :: x73 :: x74 :: x75 :: x76 :: x77 :: x78 :: x79 :: x80 :: x81 :: x82 :: x83 :: x84 :: x85 :: x86 :: x87 :: x88 :: x89 :: x90 :: x91 :: x92 :: x93 :: x94 :: x95 :: x96 :: x97 :: x98 :: x99 :: x100 :: x101 :: x102 :: x103 :: x104 :: x105 :: x106 :: x107 :: x108 :: x109 :: x110 :: x111 :: x112 :: x113 :: x114 :: x115 :: x116 :: x117 :: x118 :: x119 :: x120 :: x121 :: x122 :: x123 :: x124 :: x125 :: x126 :: x127 :: x128 :: x129 :: x130 :: x131 :: x132 :: x133 :: x134 :: x135 :: x136 :: x137 :: x138 :: x139 :: x140 :: x141 :: x142 :: x143 :: x144 :: x145 :: x146 :: x147 :: x148 :: x149 :: x150 :: x151 :: x152 :: x153 :: x154 :: x155 :: x156 :: x157 :: x158 :: x159 :: x160 :: x161 :: x162 :: x163 :: x164 :: x165 :: x166 :: x167 :: x168 :: x169 :: x170 :: x171 :: x172 :: x173 :: x174 :: x175 :: x176 :: x177 :: x178 :: x179 :: x180 :: x181 :: x182 :: x183 :: x184 :: x185 :: x186 :: x187 :: x188 :: x189 :: x190 :: x191 :: x192 :: x193 :: x194 :: x195 :: x196 :: x197 :: x198 :: x199 :: x200 :: x201 :: x202 :: x203 :: x204 :: x205 :: x206 :: x207 :: x208 :: x209 :: x210 :: x211 :: x212 :: x213 :: x214 :: x215 :: x216 :: x217 :: x218 :: x219 :: x220 :: x221 :: x222 :: x223 :: x224 :: x225 :: x226 :: x227 :: x228 :: x229 :: x230 :: x231 :: x232 :: x233 :: x234 :: x235 :: x236 :: x237 :: x238 :: x239 :: x240 :: x241 :: x242 :: x243 :: x244 :: x245 :: x246 :: x247 :: x248 :: x249 :: x250 :: x251 :: x252 :: x253 :: x254 :: x255 :: x256 :: x257 :: x258 :: x259 :: x260 :: x261 :: x262 :: x263 :: x264 :: x265 :: x266 :: x267 :: x268 :: x269 :: x270 :: x271 :: x272 :: x273 :: x274 :: x275 :: x276 :: x277 :: x278 :: x279 :: x280 :: x281 :: x282 :: x283 :: x284 :: x285 :: x286 :: x287 :: x288 :: x289 :: x290 :: x291 :: x292 :: x293 :: x294 :: x295 :: x296 :: x297 :: x298 :: x299 :: x300 :: x301 :: x302 :: x303 :: x304 :: x305 :: x306 :: x307 :: x308 :: x309 :: x310 :: x311 :: x312 :: x313 :: x314 :: x315 :: x316 :: x317 :: x318 :: x319 :: x320 :: x321 :: x322 :: x323 :: x324 :: x325 :: x326 :: x327 :: x328 :: x329 :: x330 :: x331 :: x332 :: x333 :: x334 :: x335 :: x336 :: x337 :: x338 :: x339 :: x340 :: x341 :: x342 :: x343 :: x344 :: x345 :: x346 :: x347 :: x348 :: x349 :: x350 :: x351 :: x352 :: x353 :: x354 :: x355 :: x356 :: x357 :: x358 :: x359 :: x360 :: x361 :: x362 :: x363 :: x364 :: x365 :: x366 :: x367 :: x368 :: x369 :: x370 :: x371 :: x372 :: x373 :: x374 :: x375 :: x376 :: x377 :: x378 :: x379 :: x380 :: x381 :: x382 :: x383 :: x384 :: x385 :: x386 :: x387 :: x388 :: x389 :: x390 :: x391 :: x392 :: x393 :: x394 :: x395 :: x396 :: x397 :: x398 :: x399 :: x400 :: x401 :: x402 :: x403 :: x404 :: x405 :: x406 :: x407 :: x408 :: x409 :: []).toArray, []⟩ w := by
  conv => arg 2; whnf
  cases ok
  · go_wp2
    exact ⟨rfl, rfl, Below.refl _ _⟩
  by_cases h31 : p ≤ 31
  case neg =>
    go_wp2
    exact ⟨rfl, rfl, Below.refl _ _⟩
  by_cases h12 : n ≤ 12
  case neg =>
    go_wp2
    exact ⟨rfl, rfl, Below.refl _ _⟩
  obtain ⟨hf, hn1, hz, hm⟩ := HM.out rfl
  clear HM
  have hfit := fit_of hf
  have hcg : curveB A B = true ∧ goodP A B p = true := by
    unfold fitB at hf
    simp only [Bool.and_eq_true] at hf
    exact hf.1
  have h1 := fun W => c_iLiesOnCurve A B p x W
  rw [hf] at h1
  have HL := Lib.hid h1
  have HP := Lib.hid (fun W => c_sPointsModulo A B p hcg.1 hcg.2 (by omega) W)
  have HF := Lib.hid (fnd_lies hf h31)
  have hlen := fmPt_len A B p p.toNat
  have hl2 := Nat.mul_le_mul (show p.toNat ≤ 31 by omega) (show p.toNat ≤ 31 by omega)
  have HT : Hid (∀ y, some (x, y) ∈ fmPt A B p p.toNat → ∃ Y, (∀ v w, RdL w v [x, y] → Calls Tryz.prog 23 #[.agg #[.int .i64 A, .int .i64 B], .int .i64 p, .int .i64 n, v] w (AddT [m, Y] w)) ∧ (∀ v w, RdL w v [x, y] → Calls Tryz.prog 24 #[.agg #[.int .i64 A, .int .i64 B], .int .i64 p, .int .i64 n, v] w (AddT [m, Y] w))) := Lib.hid fun y hy => by
    rcases fmPt_mem.1 hy with h | ⟨a, b, h2, h3, h4, h5⟩
    · cases h
    · injection h5 with h5
      injection h5 with h6 h7
      subst h6 h7
      have hon : OnP A B p (a : Int) (b : Int) := ⟨hcg.1, hcg.2, by omega, by omega, by omega, h4⟩
      obtain ⟨X, Y, e1, e2, e3⟩ := fc_all hf h31 (by omega) h4 ⟨hn1, h12⟩ hz
      rw [← hm] at e3
      subst e3
      refine ⟨Y, fun v w r => ?_, fun v w r => ?_⟩
      · have h9 := c_iTimesModulo A B p n a b hon ⟨hn1, h12⟩ v w r
        rw [e2] at h9
        exact h9
      · have h9 := c_sTimesModulo A B p n a b hon ⟨hn1, h12⟩ v w r
        rw [e1] at h9
        exact h9
  replace hlen : (fmPt A B p p.toNat).length ≤ 1000 := by omega
  generalize fmPt A B p p.toNat = L at *
  generalize liesV A B p x = lv at *
  clear hf hcg hz hm hfit hl2 h1
  obtain ⟨f0, f1, _, _, f4⟩ := id hx
  go_wp2_with fail
  refine (HL.out _).mono ?_
  rintro e w1 ⟨rfl, hb1⟩
  have x1 := hx.below hb1
  clear f0 f1 f4 HL
  obtain ⟨f0, f1, _, _, f4⟩ := id x1
  go_wp2_with fail
  refine (HP.out _).mono ?_
  rintro e w2 ⟨v, rfl, rp, hb2⟩
  have x2 := x1.below hb2
  have bb2 := below_step hb2 hb1.size hb1
  have hz2 := bb2.size
  clear f0 f1 f4 HP
  obtain ⟨ad, cap, rfl, hc⟩ := rp
  have HC := Lib.hid hc
  clear hc
  go_wp2
  go_loopw [50, 352] (fun fv iv wr => ∃ j : Nat, j ≤ L.length ∧ iv = .int .i64 j ∧ Hid (fv = .bool (fnd x (L.take j))) ∧ Below w2.heap.size w2 wr) (fun _ iv _ => L.length - (intOf iv).toNat)
  case atStart => exact ⟨0, Nat.zero_le _, rfl, rfl, Below.refl _ _⟩
  case round =>
    obtain ⟨j, hj, rfl, HV, hbl⟩ := hrel
    have zl := hbl.size
    have xr := x2.below hbl
    by_cases hlt : j < L.length
    · obtain ⟨g, u, rfl, q1, hg, ru⟩ := HC.out j hlt
      have q2 := (hbl.cell (p := ⟨g, j, none⟩) hg).trans q1
      have hgr : g < wr.heap.size := by omega
      replace ru := ru.below hbl
      have HK := Lib.hid (fnd_take x L j hlt)
      have HM : Hid (L[j] ∈ L) := List.getElem_mem hlt
      have i0 : (0 : Int) ≤ (j : Int) := by omega
      have i1 : (j : Int) < (L.length : Int) := by omega
      clear q1 hg
      generalize L[j] = s at *
      rcases s with _ | ⟨a, b⟩
      · obtain ⟨z, c, rfl⟩ := RdL.zero ru
        go_wp2
        go_roundw
        case rel => exact ⟨j + 1, by omega, by go_num, by show _ = _; rw [HK.out, HV.out]; simp [isX], hbl⟩
        case measure => simp [intOf]; omega
      · obtain ⟨g', o', c, rfl, t0, t1, hg'⟩ := RdL.two ru
        by_cases hax : a = x
        · subst hax
          obtain ⟨Y, T1, T2⟩ := HT.out b HM.out
          have U1 := Lib.hid T1
          have U2 := Lib.hid T2
          clear T1 T2
          obtain ⟨f0, f1, _, _, f4⟩ := id xr
          go_wp2_with fail
          refine (U1.out _ _ ru).mono ?_
          rintro e w3 ⟨v3, rfl, r3, hb3⟩
          have x3 := xr.below hb3
          have ru3 := ru.below hb3
          have b3 := below_step hb3 zl hbl
          clear f0 f1 f4 t0 t1 hg' q2 hgr
          obtain ⟨f0, f1, _, _, f4⟩ := id x3
          go_wp2_with fail
          refine (U2.out _ _ ru3).mono ?_
          rintro e w4 ⟨v4, rfl, r4, hb4⟩
          have b4 := below_step hb4 b3.size b3
          have r34 := r3.below hb4
          clear f0 f1 f4 U1 U2
          obtain ⟨g4, o4, c4, rfl, p0, p1, hg4⟩ := RdL.two r4
          go_wp2_with fail
          refine (c_qInts _ _ [m, Y] (by simp) _ r34.rd r4.rd).mono ?_
          rintro e w5 ⟨rfl, hb5⟩
          have b5 := below_step hb5 b4.size b4
          have p0' := (hb5.cell (p := ⟨g4, o4, none⟩) hg4).trans p0
          clear p0 p1
          go_wp2
          go_roundw
          case rel => exact ⟨j + 1, by omega, by go_num, by show _ = _; rw [HK.out]; simp [isX], b5⟩
          case measure => simp [intOf]; omega
        · go_wp2
          go_roundw
          case rel => exact ⟨j + 1, by omega, by go_num, by show _ = _; rw [HK.out, HV.out]; simp [isX, hax], hbl⟩
          case measure => simp [intOf]; omega
    · obtain rfl : j = L.length := by omega
      have hv := HV.out
      rw [List.take_length, HF.out] at hv
      subst hv
      have hbb := below_step hbl hz2 bb2
      go_wp2
      exact ⟨rfl, rfl, hbb⟩
end Go.Proofs.YtgjdgcmmlfmhmaaGreatDoor
