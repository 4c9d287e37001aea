/- The walk of the law FnDivisionRoots: its ends. -/
import Derived.Test.YtmlfkceafkhlaaaDrw
import Derived.Test.YtmlfkceafkhlaaaRest
namespace Go.Proofs.Ytmlfkceafkhlaaa
open Go.RowKit

noncomputable def restR31 : Code := (Try.f3.body.bind (restAt 31)).getD .skip
noncomputable def restR18 : Code := (Try.f3.body.bind (restAt 18)).getD .skip
/-- what is known of an order -/
def OrdF (C D p x : Int) (one : Bool) (o : Int) : Prop := one = true → ∃ N : Nat, o = N ∧ (1 ≤ N ∧ N ≤ 40) ∧ fitB C D p x = true ∧ zB C D p x N = true ∧ (∀ i : Nat, 1 ≤ i → i < N → zB C D p x i = false) ∧ (2 * N ≤ 40 → zB C D p x (2 * (N : Int)) = true)
set_option maxRecDepth 1000000 in
set_option maxHeartbeats 4000000 in
theorem r31 {Q0 : Exit → Act → World → Prop} {x0 x1 x2 x3 x4 x5 x6 x7 x8 x9 x10 x11 x15 x18 x19 x20 x21 x22 x23 x24 x25 x26 x27 x28 x29 x30 x31 x32 x33 x34 x35 x36 x37 x38 x39 x40 x41 x42 x43 x44 x45 x46 x47 x48 x49 x50 x51 x52 x53 x54 x55 x56 x57 x58 x59 x60 x61 x62 x63 x64 x65 x66 x67 x68 x69 x70 x71 x72 x73 x74 x75 x76 x77 x78 x79 x80 x81 x82 x83 x84 x85 x86 x87 x88 x89 x90 x91 x92 x93 x94 x95 x96 x97 x98 x99 x100 x101 x102 x103 x104 x105 x106 x107 x108 x109 x110 x111 x112 x113 x114 x115 x116 x117 x118 x119 x120 x121 x122 x123 x124 x125 x126 x127 x128 x129 x130 x131 x132 x133 x134 x135 x136 x137 x138 x139 x140 x141 x142 x143 x144 x145 x146 x147 x148 x149 x150 x151 x152 x153 x154 x155 x156 x157 x158 x159 x160 x161 x162 x163 x164 x165 x166 x167 x168 x169 x170 x171 x172 x173 x174 x175 x176 x177 x178 x179 x180 x181 x182 x183 x184 x185 x186 x187 x188 x189 x190 x191 x192 x193 x194 x195 x196 x197 x198 x199 x200 x201 x202 x203 x204 x205 x206 x207 x208 x209 x210 x211 x212 x213 x214 x215 x216 x217 x218 x219 x220 x221 x222 x223 x224 x225 x226 x227 x228 x229 x230 x231 x232 x233 x234 x235 x236 x237 x238 x239 x240 x241 x242 x243 x244 x245 x246 x247 x248 x249 x250 x251 x252 x253 x254 x255 x256 x257 x258 x259 x260 x261 x262 x263 x264 x265 x266 x267 x268 x269 x270 x271 x272 x273 x274 x275 x276 x277 x278 x279 x280 x281 x282 x283 x284 x285 x286 x287 x288 x289 x290 x291 x292 x293 x294 x295 x296 x297 x298 x299 x300 x301 x302 x303 x304 x305 x306 x307 x308 x309 x310 x311 x312 x313 x314 x315 x316 x317 x318 x319 x320 x321 x322 x323 x324 x325 x326 x327 : Value} (E : Nat) (C D p x : Int) (one : Bool) (o : Int) (w : World) (hx : Bx E (.int .i64 C) (.int .i64 D) w) (HO : Hid (OrdF C D p x one o)) (hret : ∀ a w', Done 4 w a w' → Q0 .ret a w') :
    Code.wp Try.prog restR31 Q0 ⟨(x0 :: x1 :: x2 :: x3 :: x4 :: x5 :: x6 :: x7 :: x8 :: x9 :: x10 :: x11 :: .pointer (some ⟨E, 0, none⟩) :: .int .i64 p :: .int .i64 x :: x15 :: .bool one :: .int .i64 o :: x18 :: x19 :: x20 :: x21 :: x22 :: x23 :: x24 :: x25 :: x26 :: x27 :: x28 :: x29 :: x30 :: x31 :: x32 :: x33 :: x34 :: x35 :: x36 :: x37 :: x38 :: x39 :: x40 :: x41 :: x42 :: x43 :: x44 :: x45 :: x46 :: x47 :: x48 :: x49 :: x50 :: x51 :: x52 :: x53 :: x54 :: x55 :: x56 :: x57 :: x58 :: x59 :: x60 :: x61 :: x62 :: x63 :: x64 :: x65 :: x66 :: x67 :: x68 :: x69 :: x70 :: x71 :: x72 :: x73 :: x74 :: x75 :: x76 :: x77 :: x78 :: x79 :: x80 :: x81 :: x82 :: x83 :: x84 :: x85 :: x86 :: x87 :: x88 :: x89 :: x90 :: x91 :: x92 :: x93 :: x94 :: x95 :: x96 :: x97 :: x98 :: x99 :: x100 :: x101 :: x102 :: x103 :: x104 :: x105 :: x106 :: x107 :: x108 :: x109 :: x110 :: x111 :: x112 :: x113 :: x114 :: x115 :: x116 :: x117 :: x118 :: x119 :: x120 :: x121 :: x122 :: x123 :: x124 :: x125 :: x126 :: x127 :: x128 :: x129 :: x130 :: x131 :: x132 :: x133 :: x134 :: x135 :: x136 :: x137 :: x138 :: x139 :: x140 :: x141 :: x142 :: x143 :: x144 :: x145 :: x146 :: x147 :: x148 :: x149 :: x150 :: x151 :: x152 :: x153 :: x154 :: x155 :: x156 :: x157 :: x158 :: x159 :: x160 :: x161 :: x162 :: x163 :: x164 :: x165 :: x166 :: x167 :: x168 :: x169 :: x170 :: x171 :: x172 :: x173 :: x174 :: x175 :: x176 :: x177 :: x178 :: x179 :: x180 :: x181 :: x182 :: x183 :: x184 :: x185 :: x186 :: x187 :: x188 :: x189 :: x190 :: x191 :: x192 :: x193 :: x194 :: x195 :: x196 :: x197 :: x198 :: x199 :: x200 :: x201 :: x202 :: x203 :: x204 :: x205 :: x206 :: x207 :: x208 :: x209 :: x210 :: x211 :: x212 :: x213 :: x214 :: x215 :: x216 :: x217 :: x218 :: x219 :: x220 :: x221 :: x222 :: x223 :: x224 :: x225 :: x226 :: x227 :: x228 :: x229 :: x230 :: x231 :: x232 :: x233 :: x234 :: x235 :: x236 :: x237 :: x238 :: x239 :: x240 :: x241 :: x242 :: x243 :: x244 :: x245 :: x246 :: x247 :: x248 :: x249 :: x250 :: x251 :: x252 :: x253 :: x254 :: x255 :: x256 :: x257 :: x258 :: x259 :: x260 :: x261 :: x262 :: x263 :: x264 :: x265 :: x266 :: x267 :: x268 :: x269 :: x270 :: x271 :: x272 :: x273 :: x274 :: x275 :: x276 :: x277 :: x278 :: x279 :: x280 :: x281 :: x282 :: x283 :: x284 :: x285 :: x286 :: x287 :: x288 :: x289 :: x290 :: x291 :: x292 :: x293 :: x294 :: x295 :: x296 :: x297 :: x298 :: x299 :: x300 :: x301 :: x302 :: x303 :: x304 :: x305 :: x306 :: x307 :: x308 :: x309 :: x310 :: x311 :: x312 :: x313 :: x314 :: x315 :: x316 :: x317 :: x318 :: x319 :: x320 :: x321 :: x322 :: x323 :: x324 :: x325 :: x326 :: x327 :: []).toArray, []⟩ w := by
  conv => arg 2; whnf
  cases one
  · go_wp2
    exact ⟨rfl, rfl, Below.refl _ _⟩
  · obtain ⟨N, rfl, hN, hf, hz, hi, h2⟩ := HO.out rfl
    have KI : Hid (∀ i : Nat, 1 ≤ i → i ≤ 40 → ∀ w, Calls Try.prog 20 #[.agg #[.int .i64 C, .int .i64 D], .int .i64 p, .int .i64 x, .int .i64 i] w fun e w' => e = .returned (.tuple #[.bool (zB C D p x i), .bool true]) ∧ Below w.heap.size w w') := Lib.hid fun i h1 h2 w => by
      have h := c_iIsDivided C D p x i w
      rw [show dvOk C D p x i = true by unfold dvOk; rw [hf, inB_mk (by omega) (by omega)]; rfl] at h
      exact h
    have K1 := Lib.hid (fun W => hz ▸ KI.out N hN.1 hN.2 W)
    have K2 := Lib.hid (fun i (a : 1 ≤ i) (b : i < N) W => hi i a b ▸ KI.out i a (by omega) W)
    have K3 : Hid (2 * N ≤ 40 → ∀ w, Calls Try.prog 20 #[.agg #[.int .i64 C, .int .i64 D], .int .i64 p, .int .i64 x, .int .i64 (2 * (N : Int))] w fun e w' => e = .returned (.tuple #[.bool true, .bool true]) ∧ Below w.heap.size w w') := Lib.hid fun h w => by
      have k := KI.out (2 * N) (by omega) h w
      rw [show ((2 * N : Nat) : Int) = 2 * (N : Int) by omega, h2 h] at k
      exact k
    clear hf hz hi h2 KI HO
    obtain ⟨f0, f1, _, _, f4⟩ := id hx
    go_wp2_with fail
    refine (K1.out _).mono ?_
    rintro e w1 ⟨rfl, hb1⟩
    have x1 := hx.below hb1
    clear f0 f1 f4 K1
    go_wp2
    go_loopw [44] (fun i wr => ∃ j : Nat, 1 ≤ j ∧ j ≤ N ∧ i = .int .i64 j ∧ Bx E (.int .i64 C) (.int .i64 D) wr ∧ Below w.heap.size w wr) (fun i _ => N - (intOf i).toNat)
    case atStart => exact ⟨1, by omega, by omega, rfl, x1, hb1⟩
    case round =>
      obtain ⟨j, hj1, hj, rfl, xr, hbl⟩ := hrel
      have hj0 : (0 : Int) ≤ (j : Int) := by omega
      obtain ⟨f0, f1, _, _, f4⟩ := id xr
      by_cases hlt : j < N
      · have hlt' : (j : Int) < (N : Int) := by omega
        have K := Lib.hid (K2.out j hj1 hlt)
        go_wp2_with fail
        refine (K.out _).mono ?_
        rintro e w2 ⟨rfl, hb2⟩
        go_wp2
        go_roundw
        case rel => exact ⟨j + 1, by omega, by omega, by go_num, xr.below hb2, below_step hb2 hbl.size hbl⟩
        case measure => simp [intOf]; omega
      · obtain rfl : j = N := by omega
        by_cases h2 : 2 * j ≤ 40
        · have h2' : 2 * (j : Int) ≤ 40 := by omega
          have K := Lib.hid (K3.out h2)
          go_wp2_with fail
          refine (K.out _).mono ?_
          rintro e w2 ⟨rfl, hb2⟩
          go_wp2
          exact ⟨rfl, rfl, below_step hb2 hbl.size hbl⟩
        · have h2' : ¬ (2 * (j : Int) ≤ 40) := by omega
          go_wp2
          exact ⟨rfl, rfl, hbl⟩
/-- what is known of roots -/
def RootF (A B p n : Int) (ov : Bool) (L : List Int) : Prop := ov = true → (0 < p ∧ 1 ≤ n ∧ inB n 1 40 = true) ∧ (n % p = 0 ∨ (L.length : Int) ≤ degV n) ∧ L.Pairwise (fun x y => x < y) ∧ ∀ y ∈ L, dvOk A B p y n = true ∧ dvE A B p y n.toNat = 0 ∧ zB A B p y n = true
set_option maxRecDepth 1000000 in
set_option maxHeartbeats 4000000 in
theorem r18 {Q0 : Exit → Act → World → Prop} {x0 x1 x2 x3 x4 x8 x11 x15 x18 x19 x20 x21 x22 x23 x24 x25 x26 x27 x28 x29 x30 x31 x32 x33 x34 x35 x36 x37 x38 x39 x40 x41 x42 x43 x44 x45 x46 x47 x48 x49 x50 x51 x52 x53 x54 x55 x56 x57 x58 x59 x60 x61 x62 x63 x64 x65 x66 x67 x68 x69 x70 x71 x72 x73 x74 x75 x76 x77 x78 x79 x80 x81 x82 x83 x84 x85 x86 x87 x88 x89 x90 x91 x92 x93 x94 x95 x96 x97 x98 x99 x100 x101 x102 x103 x104 x105 x106 x107 x108 x109 x110 x111 x112 x113 x114 x115 x116 x117 x118 x119 x120 x121 x122 x123 x124 x125 x126 x127 x128 x129 x130 x131 x132 x133 x134 x135 x136 x137 x138 x139 x140 x141 x142 x143 x144 x145 x146 x147 x148 x149 x150 x151 x152 x153 x154 x155 x156 x157 x158 x159 x160 x161 x162 x163 x164 x165 x166 x167 x168 x169 x170 x171 x172 x173 x174 x175 x176 x177 x178 x179 x180 x181 x182 x183 x184 x185 x186 x187 x188 x189 x190 x191 x192 x193 x194 x195 x196 x197 x198 x199 x200 x201 x202 x203 x204 x205 x206 x207 x208 x209 x210 x211 x212 x213 x214 x215 x216 x217 x218 x219 x220 x221 x222 x223 x224 x225 x226 x227 x228 x229 x230 x231 x232 x233 x234 x235 x236 x237 x238 x239 x240 x241 x242 x243 x244 x245 x246 x247 x248 x249 x250 x251 x252 x253 x254 x255 x256 x257 x258 x259 x260 x261 x262 x263 x264 x265 x266 x267 x268 x269 x270 x271 x272 x273 x274 x275 x276 x277 x278 x279 x280 x281 x282 x283 x284 x285 x286 x287 x288 x289 x290 x291 x292 x293 x294 x295 x296 x297 x298 x299 x300 x301 x302 x303 x304 x305 x306 x307 x308 x309 x310 x311 x312 x313 x314 x315 x316 x317 x318 x319 x320 x321 x322 x323 x324 x325 x326 x327 : Value} (E' : Nat) (A B q n : Int) (ov : Bool) (v : Value) (L : List Int) (hL : L.length ≤ 1000)
    (E : Nat) (C D p x : Int) (one : Bool) (o : Int) (w : World) (hx : Bx E (.int .i64 C) (.int .i64 D) w) (HO : Hid (OrdF C D p x one o))
    (hy : Bx E' (.int .i64 A) (.int .i64 B) w) (hr : RdI w v L) (HR : Hid (RootF A B q n ov L)) (hret : ∀ a w', Done 4 w a w' → Q0 .ret a w') :
    Code.wp Try.prog restR18 Q0 ⟨(x0 :: x1 :: x2 :: x3 :: x4 :: .pointer (some ⟨E', 0, none⟩) :: .int .i64 q :: .int .i64 n :: x8 :: .bool ov :: v :: x11 :: .pointer (some ⟨E, 0, none⟩) :: .int .i64 p :: .int .i64 x :: x15 :: .bool one :: .int .i64 o :: x18 :: x19 :: x20 :: x21 :: x22 :: x23 :: x24 :: x25 :: x26 :: x27 :: x28 :: x29 :: x30 :: x31 :: x32 :: x33 :: x34 :: x35 :: x36 :: x37 :: x38 :: x39 :: x40 :: x41 :: x42 :: x43 :: x44 :: x45 :: x46 :: x47 :: x48 :: x49 :: x50 :: x51 :: x52 :: x53 :: x54 :: x55 :: x56 :: x57 :: x58 :: x59 :: x60 :: x61 :: x62 :: x63 :: x64 :: x65 :: x66 :: x67 :: x68 :: x69 :: x70 :: x71 :: x72 :: x73 :: x74 :: x75 :: x76 :: x77 :: x78 :: x79 :: x80 :: x81 :: x82 :: x83 :: x84 :: x85 :: x86 :: x87 :: x88 :: x89 :: x90 :: x91 :: x92 :: x93 :: x94 :: x95 :: x96 :: x97 :: x98 :: x99 :: x100 :: x101 :: x102 :: x103 :: x104 :: x105 :: x106 :: x107 :: x108 :: x109 :: x110 :: x111 :: x112 :: x113 :: x114 :: x115 :: x116 :: x117 :: x118 :: x119 :: x120 :: x121 :: x122 :: x123 :: x124 :: x125 :: x126 :: x127 :: x128 :: x129 :: x130 :: x131 :: x132 :: x133 :: x134 :: x135 :: x136 :: x137 :: x138 :: x139 :: x140 :: x141 :: x142 :: x143 :: x144 :: x145 :: x146 :: x147 :: x148 :: x149 :: x150 :: x151 :: x152 :: x153 :: x154 :: x155 :: x156 :: x157 :: x158 :: x159 :: x160 :: x161 :: x162 :: x163 :: x164 :: x165 :: x166 :: x167 :: x168 :: x169 :: x170 :: x171 :: x172 :: x173 :: x174 :: x175 :: x176 :: x177 :: x178 :: x179 :: x180 :: x181 :: x182 :: x183 :: x184 :: x185 :: x186 :: x187 :: x188 :: x189 :: x190 :: x191 :: x192 :: x193 :: x194 :: x195 :: x196 :: x197 :: x198 :: x199 :: x200 :: x201 :: x202 :: x203 :: x204 :: x205 :: x206 :: x207 :: x208 :: x209 :: x210 :: x211 :: x212 :: x213 :: x214 :: x215 :: x216 :: x217 :: x218 :: x219 :: x220 :: x221 :: x222 :: x223 :: x224 :: x225 :: x226 :: x227 :: x228 :: x229 :: x230 :: x231 :: x232 :: x233 :: x234 :: x235 :: x236 :: x237 :: x238 :: x239 :: x240 :: x241 :: x242 :: x243 :: x244 :: x245 :: x246 :: x247 :: x248 :: x249 :: x250 :: x251 :: x252 :: x253 :: x254 :: x255 :: x256 :: x257 :: x258 :: x259 :: x260 :: x261 :: x262 :: x263 :: x264 :: x265 :: x266 :: x267 :: x268 :: x269 :: x270 :: x271 :: x272 :: x273 :: x274 :: x275 :: x276 :: x277 :: x278 :: x279 :: x280 :: x281 :: x282 :: x283 :: x284 :: x285 :: x286 :: x287 :: x288 :: x289 :: x290 :: x291 :: x292 :: x293 :: x294 :: x295 :: x296 :: x297 :: x298 :: x299 :: x300 :: x301 :: x302 :: x303 :: x304 :: x305 :: x306 :: x307 :: x308 :: x309 :: x310 :: x311 :: x312 :: x313 :: x314 :: x315 :: x316 :: x317 :: x318 :: x319 :: x320 :: x321 :: x322 :: x323 :: x324 :: x325 :: x326 :: x327 :: []).toArray, []⟩ w := by
  conv => arg 2; whnf
  go_upto_if 192 with (fail)
  go_cut [] from 328 (fun wc => Below w.heap.size w wc)
  case rest =>
    apply_assumption
    exact r31 E C D p x one o _ (hx.below hcut) HO (fun a w' hd => hret a w' ⟨hd.1, hd.2.1, below_step hd.2.2 hcut.size hcut⟩)
  case first =>
    cases ov
    · go_wp2
      go_meet
      case rel => exact Below.refl _ _
    · obtain ⟨⟨hp0, hn1, hi40⟩, hdn, hpw, hall⟩ := HR.out rfl
      obtain ⟨sa, cap, rfl, hf⟩ := hr
      have HQ := Lib.hid hf
      have HAS := Lib.hid hpw
      have KM : Hid (∀ y ∈ L, ∀ w, Calls Try.prog 19 #[.agg #[.int .i64 A, .int .i64 B], .int .i64 q, .int .i64 y, .int .i64 n] w fun e w' => e = .returned (.tuple #[.int .i64 0, .bool true]) ∧ Below w.heap.size w w') := Lib.hid fun y hy w => by
        have h := c_iDivisionModulo A B q y n w
        obtain ⟨h1, h2, h3⟩ := hall y hy
        rw [h1, h2] at h
        exact h
      have KI : Hid (∀ y ∈ L, ∀ w, Calls Try.prog 20 #[.agg #[.int .i64 A, .int .i64 B], .int .i64 q, .int .i64 y, .int .i64 n] w fun e w' => e = .returned (.tuple #[.bool true, .bool true]) ∧ Below w.heap.size w w') := Lib.hid fun y hy w => by
        have h := c_iIsDivided A B q y n w
        obtain ⟨h1, h2, h3⟩ := hall y hy
        rw [h1, h3] at h
        exact h
      have KD := fun w => c_iDegree n w
      have KS := fun w => c_sDegree n w
      rw [hi40] at KD KS
      generalize degV n = dn at KD KS hdn
      replace KD := Lib.hid KD
      replace KS := Lib.hid KS
      clear hf hpw hall HR HO hx hi40
      have hmod := Int.emod_nonneg n (show q ≠ 0 by omega)
      go_wp2_with fail
      refine (KD.out _).mono ?_
      rintro e _ ⟨rfl, rfl⟩
      go_wp2_with fail
      refine (KS.out _).mono ?_
      rintro e wd ⟨rfl, rfl⟩
      clear KD KS
      go_upto_region 21 with (fail)
      go_cut [225] from 328 (fun s wx => s = .bool false ∧ wd = wx)
      case first =>
        by_cases hnp : n % q = 0
        · go_wp2
          go_meet
          case rel => exact ⟨rfl, rfl⟩
        · have hle : ¬ (dn < (L.length : Int)) := by omega
          go_wp2
          go_meet
          case rel => exact ⟨rfl, rfl⟩
      case rest =>
        obtain ⟨rfl, hwc⟩ := hcut
        subst hwc
        clear hmod hdn
        go_wp2
        go_loopw [228] (fun i wr => ∃ j : Nat, j ≤ L.length ∧ i = .int .i64 j ∧ Below wd.heap.size wd wr) (fun i _ => L.length - (intOf i).toNat)
        case atStart => exact ⟨0, Nat.zero_le _, rfl, Below.refl _ _⟩
        case round =>
          obtain ⟨j, hj, rfl, hbl⟩ := hrel
          have zl := hbl.size
          by_cases hlt : j < L.length
          · obtain ⟨g, o, rfl, q1, hg⟩ := HQ.out j hlt
            have q2 := (hbl.cell (p := ⟨g, o + j, none⟩) hg).trans q1
            have hgr : g < wr.heap.size := by omega
            have ey : L[j]?.getD 0 = L[j] := by simp [hlt]
            have hmem : L[j] ∈ L := List.getElem_mem hlt
            rw [ey] at q2
            have M1 := Lib.hid (KM.out _ hmem)
            have M2 := Lib.hid (KI.out _ hmem)
            have i0 : (0 : Int) ≤ (j : Int) := by omega
            have i1 : (j : Int) < (L.length : Int) := by omega
            have xr := hy.below hbl
            have hprev : Hid (∀ i', j = i' + 1 → wr.cell? ⟨g, o + i', none⟩ = some (.int .i64 (L[i']?.getD 0)) ∧ L[i']?.getD 0 < L[j]) := Lib.hid fun i' h => by
              subst h
              obtain ⟨g', o', e', p1, _⟩ := HQ.out i' (by omega)
              obtain ⟨rfl, rfl⟩ : g = g' ∧ o = o' := by simpa using e'
              refine ⟨(hbl.cell (p := ⟨g, o + i', none⟩) hg).trans p1, ?_⟩
              have := List.pairwise_iff_getElem.1 HAS.out i' (i' + 1) (by omega) hlt (by omega)
              simpa [show i' < L.length by omega] using this
            clear q1 ey hmem
            generalize L[j] = y at *
            obtain ⟨f0, f1, _, _, f4⟩ := id xr
            go_wp2_with fail
            refine (M1.out _).mono ?_
            rintro e w20 ⟨rfl, hb20⟩
            have q20 := (hb20.cell (p := ⟨g, o + j, none⟩) hgr).trans q2
            have x20 := xr.below hb20
            have z20 := hb20.size
            have b20 := below_step hb20 zl hbl
            clear f0 f1 f4
            obtain ⟨f0, f1, _, _, f4⟩ := id x20
            go_wp2_with fail
            refine (M2.out _).mono ?_
            rintro e w21 ⟨rfl, hb21⟩
            have b21 := below_step hb21 b20.size b20
            have hbb := hb20.trans (hb21.mono z20)
            have q21 := (hbb.cell (p := ⟨g, o + j, none⟩) hgr).trans q2
            clear f0 f1 f4 q2 q20
            cases j with
            | zero =>
              go_wp2
              go_roundw
              case rel => exact ⟨0 + 1, by omega, by simp, b21⟩
              case measure => simp [intOf]; omega
            | succ j' =>
              obtain ⟨p1, p2⟩ := hprev.out j' rfl
              have q22 := (hbb.cell (p := ⟨g, o + j', none⟩) hgr).trans p1
              clear p1 hprev
              generalize L[j']?.getD 0 = y' at *
              have hk2 : (((j' + 1 : Nat) : Int)) - 1 = j' := by omega
              have hk3 : (0 : Int) < ((j' + 1 : Nat) : Int) := by omega
              have hk4 : (0 : Int) ≤ (j' : Int) := by omega
              have hk5 : (j' : Int) < (L.length : Int) := by omega
              have hk6 : (0 : Int) < (j' : Int) + 1 := by omega
              have hk7 : ¬ (y ≤ y') := by omega
              go_wp2
              go_roundw
              case rel => exact ⟨j' + 1 + 1, by omega, by go_num, b21⟩
              case measure => simp [intOf]; omega
          · obtain rfl : j = L.length := by omega
            go_wp2
            go_meet
            case rel => exact hbl
end Go.Proofs.Ytmlfkceafkhlaaa
