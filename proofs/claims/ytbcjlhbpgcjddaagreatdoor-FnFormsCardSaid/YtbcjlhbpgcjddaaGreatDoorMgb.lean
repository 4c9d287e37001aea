/- Several texts joined: BgQ BgF BgM BgN Sqt RootB Trp OdP FrP FrQ TpL Cnd. -/
import Derived.Test.YtbcjlhbpgcjddaaGreatDoorMga
import Derived.Test.YtbcjlhbpgcjddaaGreatDoorRoot
import Derived.Test.YtbcjlhbpgcjddaaGreatDoorPt
import Derived.Test.YtbcjlhbpgcjddaaGreatDoorFrac
import Derived.Test.YtbcjlhbpgcjddaaGreatDoorFst
import Derived.Test.YtbcjlhbpgcjddaaGreatDoorForm
import Derived.Test.YtbcjlhbpgcjddaaGreatDoorCgt
import Derived.Test.YtbcjlhbpgcjddaaGreatDoorPotI
import Derived.Test.YtbcjlhbpgcjddaaGreatDoorStp
import Derived.Test.YtbcjlhbpgcjddaaGreatDoorCls
import Derived.Deep.RegionHeld3
import Derived.Maps.AppendAt
import Derived.Test.YtbcjlhbpgcjddaaGreatDoorChain
import Derived.Deep.Cut
/- BgQ -/
namespace Go.Proofs.YtbcjlhbpgcjddaaGreatDoor
open Go.RowKit

theorem vl_set : ∀ {S : List Int} {j : Nat} (_ : j < S.length) (v : Int), vl (S.set j v) = vl S + 10000 ^ j * (v - S[j]?.getD 0)
  | [], _, h, _ => by simp at h
  | x :: S, 0, _, v => by simp [vl]; omega
  | x :: S, j + 1, h, v => by
    have ih := vl_set (S := S) (j := j) (by simpa using h) v
    simp only [List.set_cons_succ, vl, List.getElem?_cons_succ]
    rw [ih, Int.mul_add, Int.pow_succ, Int.mul_comm (10000 ^ j) 10000, Int.mul_assoc]
    omega
theorem Dg.set {S : List Int} (h : Dg S) (j : Nat) {v : Int} (hv : 0 ≤ v ∧ v ≤ 9999) : Dg (S.set j v) := by
  intro y hy
  rcases List.mem_or_eq_of_mem_set hy with hy | rfl
  · exact h y hy
  · exact hv
theorem mul_bdD {x y : Int} (hx : 0 ≤ x ∧ x ≤ 9999) (hy : 0 ≤ y ∧ y ≤ 9999) : 0 ≤ x * y ∧ x * y ≤ 99980001 := by
  refine ⟨Int.mul_nonneg hx.1 hy.1, ?_⟩
  have := Int.mul_le_mul hx.2 hy.2 hy.1 (by omega : (0 : Int) ≤ 9999)
  omega
theorem mul_lt {a b : List Int} (ha : Dg a) (hb : Dg b) {m k : Nat} (hm : a.length ≤ m) (hk : b.length ≤ k) : vl a * vl b < 10000 ^ (m + k) := by
  have h1 := vl_lt ha hm
  have h2 := vl_lt hb hk
  have h3 := ha.nn
  have h4 := hb.nn
  have h5 := pw_pos m
  rw [Int.pow_add]
  have q1 : vl a * vl b ≤ vl a * 10000 ^ k := Int.mul_le_mul_of_nonneg_left (by omega) h3
  have q2 : vl a * 10000 ^ k < 10000 ^ m * 10000 ^ k := Int.mul_lt_mul_of_pos_right h1 (by have := pw_pos k; omega)
  omega
/-- the state of a product of digits, before digit k of round i -/
structure Mi (a b : List Int) (n i k : Nat) (x : Int) (S : List Int) (c : Int) : Prop where
  len : S.length = n
  dg : Dg S
  lo : 0 ≤ c
  hi : c ≤ 9999
  eq : vl S + c * 10000 ^ k = vl (a.take i) * vl b + 10000 ^ i * (x * vl (b.take (k - i)))
theorem Mi.start {a b : List Int} {n i : Nat} {x : Int} {S : List Int} (hl : S.length = n) (hd : Dg S) (he : vl S = vl (a.take i) * vl b) : Mi a b n i i x S 0 :=
  ⟨hl, hd, by omega, by omega, by rw [he, Nat.sub_self]; simp [vl]⟩
theorem Mi.step {a b : List Int} {n i k : Nat} {x c s y : Int} {S : List Int} (h : Mi a b n i k x S c) (hk : k < n) (hik : i ≤ k) (hx : 0 ≤ x ∧ x ≤ 9999) (hb : Dg b) (hs : S[k]?.getD 0 = s) (hy : b[k - i]?.getD 0 = y) : Mi a b n i (k + 1) x (S.set k ((s + c + x * y) % 10000)) ((s + c + x * y) / 10000) := by
  have hsb := h.dg.adi k
  have hyb := hb.adi (k - i)
  rw [hs] at hsb
  rw [hy] at hyb
  have hm := mul_bdD hx hyb
  have hlo := h.lo
  have hhi := h.hi
  obtain ⟨z, hz⟩ : ∃ z, s + c + x * y = z := ⟨_, rfl⟩
  refine ⟨by simp [h.len], h.dg.set k (by omega), by omega, by omega, ?_⟩
  have he := h.eq
  rw [vl_set (by rw [h.len]; exact hk), hs, show k + 1 - i = (k - i) + 1 by omega, vl_take_adi, hy, Int.pow_succ, hz]
  have eP : (10000 : Int) ^ k = 10000 ^ i * 10000 ^ (k - i) := by rw [← Int.pow_add]; congr 1; omega
  have ez : z = z % 10000 + z / 10000 * 10000 := by omega
  have q1 : z / 10000 * (10000 ^ k * 10000) = 10000 ^ k * (z / 10000 * 10000) := by rw [Int.mul_left_comm]
  have q2 : (10000 : Int) ^ i * (x * (vl (b.take (k - i)) + 10000 ^ (k - i) * y)) = 10000 ^ i * (x * vl (b.take (k - i))) + 10000 ^ k * (x * y) := by
    rw [eP, Int.mul_add, Int.mul_add, Int.mul_left_comm x, Int.mul_assoc]
  rw [q1, q2, Int.add_assoc, ← Int.mul_add, show z % 10000 - s + z / 10000 * 10000 = c + x * y by omega, Int.mul_add, Int.mul_comm _ c]
  omega
theorem Mi.done {a b : List Int} {n i : Nat} {x c : Int} {S : List Int} (h : Mi a b n i n x S c) (ha : Dg a) (hb : Dg b) (hx : a[i]?.getD 0 = x) (hi : i < a.length) (hn : n = a.length + b.length + 1) : c = 0 ∧ vl S = vl (a.take (i + 1)) * vl b := by
  have he := h.eq
  rw [vl_take_full b (by omega)] at he
  have e1 : vl (a.take (i + 1)) * vl b = vl (a.take i) * vl b + 10000 ^ i * (x * vl b) := by
    rw [vl_take_adi, hx, Int.add_mul, Int.mul_assoc]
  rw [← e1] at he
  have h1 := mul_lt (ha.take (i + 1)) hb (m := a.length + 1) (k := b.length) (by rw [List.length_take]; omega) (Nat.le_refl _)
  rw [show a.length + 1 + b.length = n by omega] at h1
  have h2 := h.dg.nn
  have hp := pw_pos n
  have hc : c = 0 := by
    have hlo := h.lo
    rcases (by omega : 0 < c ∨ c ≤ 0) with hc | hc
    · exfalso
      have : 10000 ^ n ≤ c * 10000 ^ n := by
        have := Int.mul_le_mul_of_nonneg_right (show (1 : Int) ≤ c by omega) (show (0 : Int) ≤ 10000 ^ n by omega)
        rwa [Int.one_mul] at this
      omega
    · omega
  subst hc
  rw [Int.zero_mul, Int.add_zero] at he
  exact ⟨rfl, he⟩
end Go.Proofs.YtbcjlhbpgcjddaaGreatDoor

/- BgF -/
namespace Go.Proofs.YtbcjlhbpgcjddaaGreatDoor
open Go.RowKit

end Go.Proofs.YtbcjlhbpgcjddaaGreatDoor

/- BgM -/
namespace Go.Proofs.YtbcjlhbpgcjddaaGreatDoor
open Go.RowKit

theorem sg_mul {M N : Int} {s t : Bool} (h1 : Hid (decide (M < 0) = s)) (h2 : Hid (decide (N < 0) = t)) : (s != t) = decide (M * N < 0) ∨ M * N = 0 := by
  have h1 := h1.out
  have h2 := h2.out
  by_cases hM : M = 0
  · right; rw [hM, Int.zero_mul]
  by_cases hN : N = 0
  · right; rw [hN, Int.mul_zero]
  left
  cases s <;> cases t <;> simp at h1 h2 ⊢
  · exact Int.mul_nonneg h1 h2
  · exact Int.mul_neg_of_pos_of_neg (by omega) h2
  · exact Int.mul_neg_of_neg_of_pos h1 (by omega)
  · exact Int.le_of_lt (Int.mul_pos_of_neg_of_neg h1 h2)
set_option maxHeartbeats 4000000 in
set_option maxRecDepth 20000 in
theorem c_mulWholes (M N : Int) (a b : Value) (hM : (dg M.natAbs).length ≤ 40000) (hN : (dg N.natAbs).length ≤ 40000) (w : World) (ha : WhR M a w) (hb : WhR N b w) :
    Calls Tryz.prog 176 #[a, b] w (WhP (M * N) w) := by
  obtain ⟨la, rfl, hra⟩ := ha
  obtain ⟨lb, rfl, hrb⟩ := hb
  have kA := ((Blk.new w #[.bool (decide (M < 0)), la] 164).alloc (.cells #[.bool (decide (N < 0)), lb] 164)).alloc (.cells #[.bool false, .slice none 0 0] 164)
  have kB := (Blk.new (w.alloc (.cells #[.bool (decide (M < 0)), la] 164)) #[.bool (decide (N < 0)), lb] 164).alloc (.cells #[.bool false, .slice none 0 0] 164)
  have kS := Blk.new ((w.alloc (.cells #[.bool (decide (M < 0)), la] 164)).alloc (.cells #[.bool (decide (N < 0)), lb] 164)) #[.bool false, .slice none 0 0] 164
  have hb0 : Below w.heap.size w (((w.alloc (.cells #[.bool (decide (M < 0)), la] 164)).alloc (.cells #[.bool (decide (N < 0)), lb] 164)).alloc (.cells #[.bool false, .slice none 0 0] 164)) := (((Below.refl _ _).alloc (Nat.le_refl _) _).alloc (by simp) _).alloc (by simp; omega) _
  simp only [World.size_alloc] at kB kS
  have HR1 := Lib.hid hra
  have HR2 := Lib.hid hrb
  generalize hsa : decide (M < 0) = sa at *
  generalize hsb : decide (N < 0) = sb at *
  have HSA := Lib.hid hsa
  have HSB := Lib.hid hsb
  clear hsa hsb
  have HSG := Lib.hid (sg_mul HSA HSB)
  obtain ⟨K, hK⟩ : ∃ K, M * N = K := ⟨_, rfl⟩
  have HV : Hid (vl (dg M.natAbs) * vl (dg N.natAbs) = K.natAbs) := by
    show _ = _
    rw [dg_V, dg_V, ← hK, Int.natAbs_mul, Int.natCast_mul]
  rw [hK] at HSG ⊢
  clear hK
  have hdA := dg_D M.natAbs
  have hdB := dg_D N.natAbs
  generalize dg M.natAbs = A at *
  generalize dg N.natAbs = B at *
  have hsz := hb0.size
  obtain ⟨aa, ca, rfl, _, _⟩ := hra
  obtain ⟨ab, cb, rfl, _, _⟩ := hrb
  go_enter Tryz.func176, Tryz.ntmps176
  go_upto_region 1 with (fail)
  generalize ((w.alloc _).alloc _).alloc _ = W at *
  generalize hrs : w.heap.size + 1 + 1 = rs at *
  have HA := Lib.hid (HR1.out.below hb0)
  have HB := Lib.hid (HR2.out.below hb0)
  obtain ⟨wm, hmk, ho0, hbm⟩ := mk_ints W (A.length + B.length + 1) (by omega)
  simp only [Int.natCast_add, Int.cast_ofNat_Int] at hmk
  have a1 : W.cell? ⟨w.heap.size, 1, none⟩ = some (.slice aa A.length ca) := kA.cell 1
  have b1 : W.cell? ⟨w.heap.size + 1, 1, none⟩ = some (.slice ab B.length cb) := kB.cell 1
  go_upto_region 2 with (fail)
  clear hmk
  have a1m : wm.cell? ⟨w.heap.size, 1, none⟩ = some (.slice aa A.length ca) := (kA.next hbm).cell 1
  generalize hG : W.heap.size = G at *
  have HG := Lib.hid hG
  clear hG
  have kSl : rs < G := by rw [← HG.out]; exact kS.lt
  have kAl : w.heap.size < G := by rw [← HG.out]; exact kA.lt
  have kBl : w.heap.size + 1 < G := by rw [← HG.out]; exact kB.lt
  go_upto_region 3 with (fail)
  go_loopw [23] (fun iv wr => ∃ (i : Nat) (S : List Int), i ≤ A.length ∧ iv = .int .i64 i ∧ Hid (S.length = A.length + B.length + 1 ∧ Dg S ∧ vl S = vl (A.take i) * vl B) ∧ OwnsI wr G (.slice (some ⟨G, 0, none⟩) (A.length + B.length + 1) (A.length + B.length + 1)) S ∧ Below G W wr) (fun iv _ => A.length - (intOf iv).toNat)
  case atStart => exact ⟨0, List.replicate (A.length + B.length + 1) 0, by omega, rfl, ⟨by simp, fun x hx => by rw [List.eq_of_mem_replicate hx]; omega, by rw [vl_zeros]; simp [vl]⟩, ho0, hbm⟩
  case round =>
    clear ho0 hbm a1m
    obtain ⟨i, S, hi, rfl, hS, ho, hb⟩ := hrel
    have kA1 := kA.next (HG.out ▸ hb)
    have kB1 := kB.next (HG.out ▸ hb)
    have kS1 := kS.next (HG.out ▸ hb)
    by_cases hlt : i < A.length
    · have hxa := hdA.adi i
      obtain ⟨_, _, e1, _, hca⟩ := HA.out
      injection e1 with e1 _ e2
      subst e1 e2
      obtain ⟨ga, oa, rfl, q1, hga⟩ := hca i hlt
      have d1 := (hb.cell (p := ⟨ga, oa + i, none⟩) (HG.out ▸ hga)).trans q1
      generalize ex : A[i]?.getD 0 = x at d1 hxa
      have HX := Lib.hid ex
      clear ex q1 hca
      go_upto_region 7 with (fail)
      go_loopw [8, 9] (fun cv kv wr => ∃ (k : Nat) (c : Int) (S : List Int), i ≤ k ∧ k ≤ A.length + B.length + 1 ∧ cv = .int .i64 c ∧ kv = .int .i64 k ∧ Hid (Mi A B (A.length + B.length + 1) i k x S c) ∧ OwnsI wr G (.slice (some ⟨G, 0, none⟩) (A.length + B.length + 1) (A.length + B.length + 1)) S ∧ Below G W wr) (fun _ kv _ => A.length + B.length + 1 - (intOf kv).toNat)
      case atStart => exact ⟨i, 0, S, by omega, by omega, rfl, rfl, Lib.hid (Mi.start hS.out.1 hS.out.2.1 hS.out.2.2), ho, hb⟩
      case round =>
        clear hS ho kA1 kB1 kS1 hb d1
        obtain ⟨k, c, S, hik, hk, rfl, rfl, hI, ho, hb⟩ := hrel
        by_cases hkn : k < A.length + B.length + 1
        · have hl := Lib.hid hI.out.len
          have s1 := ho.cell (i := k) (by rw [hl.out]; exact hkn)
          have f1 := ho.frozen k
          have hsb := hI.out.dg.adi k
          have hclo := hI.out.lo
          have hchi := hI.out.hi
          have kB1 := kB.next (HG.out ▸ hb)
          have b1r : wr.cell? ⟨w.heap.size + 1, 1, none⟩ = some (.slice ab B.length cb) := kB1.cell 1
          have hG2 : G < wr.heap.size := (ho.lt G rfl).2
          generalize es : S[k]?.getD 0 = s at s1 hsb
          obtain ⟨d, hkd⟩ : ∃ d, k = i + d := ⟨k - i, by omega⟩
          have hki : (k : Int) - (i : Int) = (d : Int) := by omega
          have hdi : k - i = d := by omega
          have HKD := Lib.hid hkd
          clear hkd
          by_cases hd : d < B.length
          · obtain ⟨gb, ob, rfl, q2, hgb⟩ := (by obtain ⟨_, _, e1, _, hcb⟩ := HB.out; injection e1 with e1 _ e2; subst e1 e2; exact hcb d hd : ∃ g o, ab = some ⟨g, o, none⟩ ∧ W.cell? ⟨g, o + d, none⟩ = some (.int .i64 (B[d]?.getD 0)) ∧ g < W.heap.size)
            have d2 := (hb.cell (p := ⟨gb, ob + d, none⟩) (HG.out ▸ hgb)).trans q2
            have hyb := hdB.adi d
            generalize ey : B[d]?.getD 0 = y at d2 hyb
            have hm := mul_bdD hxa hyb
            have hz0 : 0 ≤ s + c + x * y := by omega
            have HI2 := Lib.hid (hI.out.step (y := y) hkn hik hxa hdB es (by rw [hdi]; exact ey))
            clear es ey q2 hI hdi
            go_wp2
            go_roundw
            case rel => exact ⟨k + 1, (s + c + x * y) / 10000, S.set k ((s + c + x * y) % 10000), by omega, by omega, by go_num, by go_num, HI2, ho.setG hl.out.symm k _, hb.setCell (Nat.le_refl _) _⟩
            case measure => simp [intOf]; omega
          · have ey : B[k - i]?.getD 0 = 0 := by rw [hdi]; simp [hd]
            have hz0 : 0 ≤ s + c := by omega
            have HI2 := Lib.hid (hI.out.step hkn hik hxa hdB es ey)
            rw [Int.mul_zero, Int.add_zero] at HI2
            clear es ey hI hdi
            go_wp2
            go_roundw
            case rel => exact ⟨k + 1, (s + c) / 10000, S.set k ((s + c) % 10000), by omega, by omega, by go_num, by go_num, HI2, ho.setG hl.out.symm k _, hb.setCell (Nat.le_refl _) _⟩
            case measure => simp [intOf]; omega
        · obtain rfl : k = A.length + B.length + 1 := by omega
          have HI2 := Lib.hid (And.intro hI.out.len (And.intro hI.out.dg (hI.out.done hdA hdB HX.out hlt rfl).2))
          clear hI
          go_wp2
          go_roundw
          case rel => exact ⟨i + 1, S, by omega, by go_num, HI2, ho, hb⟩
          case measure => simp [intOf]; omega
    · obtain rfl : i = A.length := by omega
      have hl := hS.out.1
      have HT := Lib.hid ((c_trimmed (sa != sb) _ S (by omega) wr ho.rdL).mono fun e w' h => h.whole (N := K) HSG.out (tr_val hS.out.2.1 (hS.out.2.2.trans (by rw [vl_take_full A (Nat.le_refl _)])) HV.out))
      clear hS hl
      have a0 : wr.cell? ⟨w.heap.size, 0, none⟩ = some (.bool sa) := kA1.cell 0
      have b0 : wr.cell? ⟨w.heap.size + 1, 0, none⟩ = some (.bool sb) := kB1.cell 0
      have hb2 : Below w.heap.size w wr := below_step (HG.out ▸ hb) hsz hb0
      have hsz2 := hb2.size
      have hGr := hb.size
      go_wp2_with fail
      refine HT.out.mono ?_
      rintro e w1 ⟨v, rfl, hwh, hb1⟩
      obtain ⟨lv, rfl, ho9⟩ := hwh
      obtain ⟨sl, scap, rfl, _⟩ := id ho9.1
      have kS2 := kS1.next hb1
      have c0 : w1.cell? ⟨rs, 0, none⟩ = some (.bool false) := kS2.cell 0
      have c1 : w1.cell? ⟨rs, 1, none⟩ = some (.slice none 0 0) := kS2.cell 1
      have z0 := kS2.frozen 0
      have z1 := kS2.frozen 1
      have hbb : Below w.heap.size w w1 := below_step hb1 hsz2 hb2
      have k9 := (kS2.set 0 (.bool (decide (K < 0)))).set 1 (.slice sl (dg K.natAbs).length scap)
      have hB9 : Below w.heap.size w ((w1.setCell ⟨rs, 0, none⟩ (.bool (decide (K < 0)))).setCell ⟨rs, 1, none⟩ (.slice sl (dg K.natAbs).length scap)) := (hbb.setCell (by simp; omega) _).setCell (by simp; omega) _
      have ho8 := ho9.set2 (S := rs) kS1.lt (.bool (decide (K < 0))) (.slice sl (dg K.natAbs).length scap)
      replace ho8 : RdO _ w.heap.size _ _ := ho8.le hsz2
      clear HT ho9
      go_wp2
      generalize (World.setCell (World.setCell _ _ _) _ _) = w9 at hB9 k9 ho8 ⊢
      have q0 : w9.cell? ⟨rs, 0, none⟩ = some (.bool (decide (K < 0))) := k9.cell 0
      have q1 : w9.cell? ⟨rs, 1, none⟩ = some (.slice sl (dg K.natAbs).length scap) := k9.cell 1
      refine bodyPost_ret (v := .agg #[.bool (decide (K < 0)), .slice sl (dg K.natAbs).length scap]) (by simp [results, Tryz.results176, go_sem, q0, q1]) rfl ?_
      exact ⟨_, rfl, ⟨_, rfl, ho8⟩, hB9⟩
end Go.Proofs.YtbcjlhbpgcjddaaGreatDoor

/- BgN -/
namespace Go.Proofs.YtbcjlhbpgcjddaaGreatDoor
open Go.RowKit

theorem WhR.belowZ {n : Nat} {N : Int} {v : Value} {w w1 : World} (h : WhR N v w) (hb : Below n w w1) (hn : n = w.heap.size := by rfl) : WhR N v w1 := h.below (hn ▸ hb)
set_option maxHeartbeats 1000000 in
set_option maxRecDepth 20000 in
theorem c_negated (N : Int) (a : Value) (hN : (dg N.natAbs).length ≤ 100000) (w : World) (ha : WhR N a w) :
    Calls Tryz.prog 179 #[a] w (WhP (-N) w) := by
  obtain ⟨la, rfl, hra⟩ := ha
  have kA := (Blk.new w #[.bool (decide (N < 0)), la] 164).alloc (.cells #[.bool false, .slice none 0 0] 164)
  have kS := Blk.new (w.alloc (.cells #[.bool (decide (N < 0)), la] 164)) #[.bool false, .slice none 0 0] 164
  have hb0 : Below w.heap.size w ((w.alloc (.cells #[.bool (decide (N < 0)), la] 164)).alloc (.cells #[.bool false, .slice none 0 0] 164)) := ((Below.refl _ _).alloc (Nat.le_refl _) _).alloc (by simp) _
  simp only [World.size_alloc] at kS
  have HR1 := Lib.hid hra
  generalize hsa : decide (N < 0) = sa at *
  have HSA := Lib.hid hsa
  clear hsa
  obtain ⟨K, hK⟩ : ∃ K, -N = K := ⟨_, rfl⟩
  rw [hK]
  have hsz := hb0.size
  have hKn : K.natAbs = N.natAbs := by omega
  have hsK : (!sa) = decide (K < 0) ∨ K = 0 := by
    have := HSA.out
    by_cases h0 : K = 0
    · exact .inr h0
    · left
      cases sa <;> simp at this ⊢ <;> omega
  have HT := Lib.hid (fun W (hb : Below w.heap.size w W) => ((c_trimmed (!sa) la (dg N.natAbs) (by omega) W (HR1.out.below hb)).mono fun e w' h => h.whole (N := K) hsK (by rw [tr_low, hKn])))
  clear hsK hKn hK
  go_enter Tryz.func179, Tryz.ntmps179
  go_upto_region 1 with (fail)
  generalize (w.alloc _).alloc _ = W at *
  generalize hrs : w.heap.size + 1 = rs at *
  have a0 : W.cell? ⟨w.heap.size, 0, none⟩ = some (.bool sa) := kA.cell 0
  have a1 : W.cell? ⟨w.heap.size, 1, none⟩ = some la := kA.cell 1
  go_wp2_with fail
  refine (HT.out W hb0).mono ?_
  rintro e w1 ⟨v, rfl, hwh, hb1⟩
  obtain ⟨lv, rfl, ho⟩ := hwh
  obtain ⟨sl, scap, rfl, _⟩ := id ho.1
  have kS1 := kS.next hb1
  have c0 : w1.cell? ⟨rs, 0, none⟩ = some (.bool false) := kS1.cell 0
  have c1 : w1.cell? ⟨rs, 1, none⟩ = some (.slice none 0 0) := kS1.cell 1
  have z0 := kS1.frozen 0
  have z1 := kS1.frozen 1
  have hbb : Below w.heap.size w w1 := below_step hb1 hsz hb0
  have k9 := (kS1.set 0 (.bool (decide (K < 0)))).set 1 (.slice sl (dg K.natAbs).length scap)
  have hB9 : Below w.heap.size w ((w1.setCell ⟨rs, 0, none⟩ (.bool (decide (K < 0)))).setCell ⟨rs, 1, none⟩ (.slice sl (dg K.natAbs).length scap)) := (hbb.setCell (by simp; omega) _).setCell (by simp; omega) _
  have ho9 := ho.set2 (S := rs) kS.lt (.bool (decide (K < 0))) (.slice sl (dg K.natAbs).length scap)
  replace ho9 : RdO _ w.heap.size _ _ := ho9.le hsz
  clear HT ho
  go_wp2
  generalize (World.setCell (World.setCell _ _ _) _ _) = w9 at hB9 k9 ho9 ⊢
  have q0 : w9.cell? ⟨rs, 0, none⟩ = some (.bool (decide (K < 0))) := k9.cell 0
  have q1 : w9.cell? ⟨rs, 1, none⟩ = some (.slice sl (dg K.natAbs).length scap) := k9.cell 1
  refine bodyPost_ret (v := .agg #[.bool (decide (K < 0)), .slice sl (dg K.natAbs).length scap]) (by simp [results, Tryz.results179, go_sem, q0, q1]) rfl ?_
  exact ⟨_, rfl, ⟨_, rfl, ho9⟩, hB9⟩
set_option maxHeartbeats 1000000 in
set_option maxRecDepth 20000 in
theorem c_timesInt (M n : Int) (a : Value) (hM : (dg M.natAbs).length ≤ 40000) (hn : -1000000000000000000 ≤ n ∧ n ≤ 1000000000000000000) (w : World) (ha : WhR M a w) :
    Calls Tryz.prog 181 #[a, .int .i64 n] w (WhP (M * n) w) := by
  have HW1 := Lib.hid ha
  obtain ⟨la, rfl, _⟩ := ha
  have kA := (Blk.new w #[.bool (decide (M < 0)), la] 164).alloc (.cells #[.bool false, .slice none 0 0] 164)
  have kS := Blk.new (w.alloc (.cells #[.bool (decide (M < 0)), la] 164)) #[.bool false, .slice none 0 0] 164
  have hb0 : Below w.heap.size w ((w.alloc (.cells #[.bool (decide (M < 0)), la] 164)).alloc (.cells #[.bool false, .slice none 0 0] 164)) := ((Below.refl _ _).alloc (Nat.le_refl _) _).alloc (by simp) _
  simp only [World.size_alloc] at kS
  generalize decide (M < 0) = sa at *
  obtain ⟨K, hK⟩ : ∃ K, M * n = K := ⟨_, rfl⟩
  rw [hK]
  have hN2 : (dg n.natAbs).length ≤ 40000 := Nat.le_trans (dg_len (k := 5) (by omega)) (by omega)
  have HK := Lib.hid hK
  clear hK
  have hsz := hb0.size
  go_enter Tryz.func181, Tryz.ntmps181
  go_upto_region 1 with (fail)
  generalize (w.alloc _).alloc _ = W at *
  generalize hrs : w.heap.size + 1 = rs at *
  have a0 : W.cell? ⟨w.heap.size, 0, none⟩ = some (.bool sa) := kA.cell 0
  have a1 : W.cell? ⟨w.heap.size, 1, none⟩ = some la := kA.cell 1
  have kAl : w.heap.size < W.heap.size := kA.lt
  have kSl : rs < W.heap.size := kS.lt
  have hn1 : w.heap.size ∉ [rs] := by simp; omega
  refine wp_region_cls [rs] (fun _ => false) (fun _ => True) (Blk rs #[.bool false, .slice none 0 0] 164) (by kernel_rfl) (kS) ?_
  apply wpAnyF_hd ⟨W, Over.refl _ _, kS⟩ [true, true] 3 (Blk.closed _ _ _) (fun _ _ => trivial) (by kernel_rfl) (by kernel_rfl) (by kernel_rfl) (by kernel_rfl) (by simp)
  · intro E hE hEN hEn; (repeat (first | (refine wpHL_take ?_; go_big_quiet_step (fail); refine wpQuiet_nil ?_) | refine wpHL_skip ?_)); exact wpHL_end rfl
  refine wpAnyF_ready [2] 2 (by kernel_rfl) (by kernel_rfl) (by simp) (AllF.cons ?_ AllF.nil)
  refine stepC_calle (some 7) (fun u => fun w' => Blk rs #[.bool false, .slice none 0 0] 164 w' ∧ Wh W.heap.size n u w') (by rfl) (by rfl) (by rfl) (fun _ => by go_simp) (fun u => (Blk.closed _ _ _).and (Wh.closed _ _ _)) (fun w' hO hD => (c_wholeOf n hn w').mono fun e w2 ⟨v, h1, h2, h3⟩ => ⟨v, h1, .of_below h3, hD.next h3, h2.le hO.size⟩) (fun u hne => ?_)
  simp only [Act.put, List.setIfInBounds_toArray, List.set_cons_succ, List.set_cons_zero]
  refine wpAnyF_ready [3] 1 (by kernel_rfl) (by kernel_rfl) (by simp) (AllF.cons ?_ AllF.nil)
  refine stepC_calle (some 8) (fun u2 => fun w' => Blk rs #[.bool false, .slice none 0 0] 164 w' ∧ Wh W.heap.size K u2 w') (by rfl) (by rfl) (by rfl) (fun _ => by go_simp) (fun u2 => (Blk.closed _ _ _).and (Wh.closed _ _ _)) (fun w' hO hD => (c_mulWholes M n _ _ hM hN2 _ (HW1.out.belowZ (hO.belowGe (B := w.heap.size) hb0 hsz (by simp; omega))) hD.2.rd).mono fun e w2 ⟨v, h1, h2, h3⟩ => ⟨v, h1, .of_below h3, hD.1.next h3, HK.out ▸ h2.le hO.size⟩) (fun u2 hne => ?_)
  simp only [Act.put, List.setIfInBounds_toArray, List.set_cons_succ, List.set_cons_zero]
  obtain ⟨w9, _, _, lv9, rfl, ho9⟩ := id hne; obtain ⟨sl, scap, rfl, _⟩ := id ho9.1
  refine wpAnyF_ready [4] 0 (by kernel_rfl) (by kernel_rfl) (by simp) (AllF.cons ?_ AllF.nil)
  refine stepC_store (v := .agg #[.bool (decide (K < 0)), .slice sl (dg K.natAbs).length scap]) (rs) (#[.bool false, .slice none 0 0]) (fun w' => Blk rs #[.bool (decide (K < 0)), .slice sl (dg K.natAbs).length scap] 164 w' ∧ RdO w' W.heap.size (.slice sl (dg K.natAbs).length scap) (dg K.natAbs)) (by rfl) (by rfl) (by rfl) (by rfl) (by rfl) (by rfl) (fun _ => by go_simp) (by rfl) (by simp [Value.cells, one1]) (.inr (by simp)) (fun _ hd => hd.1) ((Blk.closed _ _ _).and (fun _ _ h hb => ⟨h.1.below hb, fun hn => (h.2 hn).below hb⟩)) (fun w1 w2 hd ho hb => ⟨hb, hd.2.rdO.over ho (by simp; omega)⟩) (fun hne => ?_)
  try simp only [Value.cells]
  refine wpAnyF_done (by kernel_rfl) (fun Wz hOz hDz => NoPanic.normal ?_) _
  try dsimp only
  have hbz : Below w.heap.size w Wz := hOz.belowGe (B := w.heap.size) hb0 hsz (by simp; omega)
  have q0 : Wz.cell? ⟨rs, 0, none⟩ = some (.bool (decide (K < 0))) := hDz.1.cell 0
  have q1 : Wz.cell? ⟨rs, 1, none⟩ = some (.slice sl (dg K.natAbs).length scap) := hDz.1.cell 1
  have hRz : RdO Wz w.heap.size (.slice sl (dg K.natAbs).length scap) (dg K.natAbs) := hDz.2.le hsz
  clear hOz hDz hne ho9
  go_wp2
  refine bodyPost_ret (v := .agg #[.bool (decide (K < 0)), .slice sl (dg K.natAbs).length scap]) (by simp [results, Tryz.results181, go_sem, q0, q1]) rfl ?_
  exact ⟨_, rfl, ⟨_, rfl, hRz⟩, hbz⟩
theorem c_floorTwo (a : Int) (ha : -1000000000 ≤ a ∧ a ≤ 1000000000) (w : World) :
    Calls Tryz.prog 198 #[.int .i64 a, .int .i64 2] w fun e w' => e = .returned (.int .i64 (a / 2)) ∧ w = w' := by
  obtain ⟨e1, b1, b2⟩ : (a / 2 = if a.tmod 2 < 0 then a.tdiv 2 - 1 else a.tdiv 2) ∧ (-1 ≤ a.tmod 2 ∧ a.tmod 2 ≤ 1) ∧ (-1000000000 ≤ a.tdiv 2 ∧ a.tdiv 2 ≤ 1000000000) := by
    rcases Int.lt_or_le a 0 with h | h
    · obtain ⟨n, hn, h0⟩ : ∃ n : Int, a = -n ∧ 0 ≤ n := ⟨-a, by omega, by omega⟩
      subst hn
      rw [Int.neg_tmod, Int.neg_tdiv, Int.tmod_eq_emod_of_nonneg h0, Int.tdiv_eq_ediv_of_nonneg h0]
      refine ⟨?_, by omega, by omega⟩
      split <;> omega
    · rw [Int.tmod_eq_emod_of_nonneg h, Int.tdiv_eq_ediv_of_nonneg h]
      refine ⟨?_, by omega, by omega⟩
      split <;> omega
  have e2 : IntKind.i64.wrap (a.tdiv 2) = a.tdiv 2 := by rw [Go.IntWalk.i64_left]; unfold wrap64; omega
  have e3 : IntKind.i64.wrap (a.tmod 2) = a.tmod 2 := by rw [Go.IntWalk.i64_left]; unfold wrap64; omega
  by_cases h : a.tmod 2 < 0
  · rw [if_pos h] at e1
    have E := Lib.hid e1
    clear e1
    go_enter Tryz.func198, Tryz.ntmps198
    go_wp2
    go_ret
    exact ⟨by rw [E.out]; rfl, rfl⟩
  · rw [if_neg h] at e1
    have E := Lib.hid e1
    clear e1
    go_enter Tryz.func198, Tryz.ntmps198
    go_wp2
    go_ret
    exact ⟨by rw [E.out]; rfl, rfl⟩
theorem cmpN_sg {M N : Int} : (M < 0 → ¬ N < 0 → cmpN M N = -1) ∧ (¬ M < 0 → N < 0 → cmpN M N = 1) ∧ (M < 0 → N < 0 → cmpN N.natAbs M.natAbs = cmpN M N) ∧ (¬ M < 0 → ¬ N < 0 → cmpN M.natAbs N.natAbs = cmpN M N) := by
  unfold cmpN
  refine ⟨fun h1 h2 => ?_, fun h1 h2 => ?_, fun h1 h2 => ?_, fun h1 h2 => ?_⟩ <;> (repeat' split) <;> omega
set_option maxHeartbeats 1000000 in
theorem c_compareWholes (M N : Int) (a b : Value) (hM : (dg M.natAbs).length ≤ 100000) (hN : (dg N.natAbs).length ≤ 100000) (w : World) (ha : WhR M a w) (hb : WhR N b w) :
    Calls Tryz.prog 199 #[a, b] w fun e w' => e = .returned (.int .i64 (cmpN M N)) ∧ Below w.heap.size w w' := by
  obtain ⟨la, rfl, hra⟩ := ha
  obtain ⟨lb, rfl, hrb⟩ := hb
  obtain ⟨c1, c2, c3, c4⟩ := @cmpN_sg M N
  have HC1 := Lib.hid (fun (na nb : Bool) (W : World) (hb : Below w.heap.size w W) => c_compareSizes na nb la lb (dg M.natAbs) (dg N.natAbs) hM (dg_D _) (dg_D _) (dg_L _) (dg_L _) W (hra.below hb) (hrb.below hb))
  have HC2 := Lib.hid (fun (na nb : Bool) (W : World) (hb : Below w.heap.size w W) => c_compareSizes nb na lb la (dg N.natAbs) (dg M.natAbs) hN (dg_D _) (dg_D _) (dg_L _) (dg_L _) W (hrb.below hb) (hra.below hb))
  rw [dg_V, dg_V] at HC1 HC2
  have hb0 : Below w.heap.size w ((w.alloc (.cells #[.bool (decide (M < 0)), la] 164)).alloc (.cells #[.bool (decide (N < 0)), lb] 164)) := ((Below.refl _ _).alloc (Nat.le_refl _) _).alloc (by simp) _
  have hz0 := hb0.size
  clear hra hrb hM hN
  by_cases hm : M < 0 <;> by_cases hn : N < 0
  · have E := c3 hm hn
    rw [E] at HC2
    generalize cmpN M N = K at *
    simp only [hm, hn, decide_true] at hb0 hz0 ⊢
    have HB := Lib.hid hb0
    clear HC1 c1 c2 c3 c4 hm hn E hb0
    go_enter Tryz.func199, Tryz.ntmps199
    go_wp2_with fail
    refine (HC2.out _ _ _ HB.out).mono ?_
    rintro e w2 ⟨rfl, hb2⟩
    go_wp2
    go_ret
    exact ⟨rfl, below_step hb2 hz0 HB.out⟩
  · have E := c1 hm hn
    rw [E]
    simp only [hm, hn, decide_true, decide_false] at hb0 hz0 ⊢
    have HB := Lib.hid hb0
    clear HC1 HC2 c1 c2 c3 c4 hm hn E hb0
    go_enter Tryz.func199, Tryz.ntmps199
    go_wp2
    go_ret
    exact ⟨rfl, HB.out⟩
  · have E := c2 hm hn
    rw [E]
    simp only [hm, hn, decide_true, decide_false] at hb0 hz0 ⊢
    have HB := Lib.hid hb0
    clear HC1 HC2 c1 c2 c3 c4 hm hn E hb0
    go_enter Tryz.func199, Tryz.ntmps199
    go_wp2
    go_ret
    exact ⟨rfl, HB.out⟩
  · have E := c4 hm hn
    rw [E] at HC1
    generalize cmpN M N = K at *
    simp only [hm, hn, decide_false] at hb0 hz0 ⊢
    have HB := Lib.hid hb0
    clear HC2 c1 c2 c3 c4 hm hn E hb0
    go_enter Tryz.func199, Tryz.ntmps199
    go_wp2_with fail
    refine (HC1.out _ _ _ HB.out).mono ?_
    rintro e w2 ⟨rfl, hb2⟩
    go_wp2
    go_ret
    exact ⟨rfl, below_step hb2 hz0 HB.out⟩
end Go.Proofs.YtbcjlhbpgcjddaaGreatDoor

/- Sqt -/
namespace Go.Proofs.YtbcjlhbpgcjddaaGreatDoor
open Go.RowKit

/-- the halving: the least number in lo .. hi whose product is not less (hi where there is none) -/
def sqF (A B : Int) : Nat → Int → Int → Int
  | 0, lo, _ => lo
  | f + 1, lo, hi => if lo < hi then (if A ≤ B * ((lo + hi) / 2) then sqF A B f lo ((lo + hi) / 2) else sqF A B f ((lo + hi) / 2 + 1) hi) else lo
def sqV (A B : Int) : Int := sqF A B 20001 (-10000) 10000
def sqOk (A B : Int) : Bool := B * sqV A B == A
theorem sqF_bd (A B : Int) : ∀ (f : Nat) (lo hi : Int), lo ≤ hi → lo ≤ sqF A B f lo hi ∧ sqF A B f lo hi ≤ hi
  | 0, lo, hi, h => by unfold sqF; omega
  | f + 1, lo, hi, h => by
    unfold sqF
    split
    · split
      · have := sqF_bd A B f lo ((lo + hi) / 2) (by omega); omega
      · have := sqF_bd A B f ((lo + hi) / 2 + 1) hi (by omega); omega
    · omega
theorem cmp_ge {x y : Int} : (0 ≤ cmpN x y) ↔ y ≤ x := by unfold cmpN; split; omega; split <;> omega
theorem cmp_eq {x y : Int} : (cmpN x y == 0) = (x == y) := by
  unfold cmpN
  split
  · rw [Bool.eq_iff_iff]; simp; omega
  · split
    · rw [Bool.eq_iff_iff]; simp; omega
    · rw [Bool.eq_iff_iff]; simp; omega
theorem mul_dg {B m : Int} (hB : B.natAbs < 10000 ^ 60) (hm : -10000 ≤ m ∧ m ≤ 10000) : (dg (B * m).natAbs).length ≤ 100000 := by
  refine Nat.le_trans (dg_len (k := 62) ?_) (by omega)
  rw [Int.natAbs_mul]
  have h1 : m.natAbs ≤ 10000 := by omega
  have h2 : B.natAbs * m.natAbs ≤ 10000 ^ 60 * 10000 := Nat.mul_le_mul (by omega) h1
  have h3 : (10000 : Nat) ^ 62 = 10000 ^ 60 * 10000 * 10000 := by rw [Nat.pow_succ, Nat.pow_succ]
  have h4 : 0 < (10000 : Nat) ^ 60 := Nat.pow_pos (by omega)
  omega
set_option maxHeartbeats 2000000 in
set_option maxRecDepth 20000 in
theorem c_smallQuotient (A B : Int) (a b : Value) (hA : A.natAbs < 10000 ^ 60) (hB : B.natAbs < 10000 ^ 60) (w : World) (ha : WhR A a w) (hb : WhR B b w) :
    Calls Tryz.prog 180 #[a, b, .int .i64 10000] w fun e w' => e = .returned (.tuple #[.int .i64 (sqV A B), .bool (sqOk A B)]) ∧ Below w.heap.size w w' := by
  have HW1 := Lib.hid ha
  have HW2 := Lib.hid hb
  have hlA : (dg A.natAbs).length ≤ 100000 := Nat.le_trans (dg_len hA) (by omega)
  have hlB : (dg B.natAbs).length ≤ 40000 := Nat.le_trans (dg_len hB) (by omega)
  have HT := Lib.hid (fun (n : Int) (W : World) (hn : -10000 ≤ n ∧ n ≤ 10000) (hbb : Below w.heap.size w W) => c_timesInt B n b hlB (by omega) W (HW2.out.below hbb))
  have HC := Lib.hid (fun (n : Int) (u : Value) (W : World) (hn : -10000 ≤ n ∧ n ≤ 10000) (hbb : Below w.heap.size w W) (hu : WhR (B * n) u W) => c_compareWholes (B * n) A u a (mul_dg hB hn) hlA W hu (HW1.out.below hbb))
  obtain ⟨la, rfl, _⟩ := ha
  obtain ⟨lb, rfl, _⟩ := hb
  have kA := (Blk.new w #[.bool (decide (A < 0)), la] 164).alloc (.cells #[.bool (decide (B < 0)), lb] 164)
  have kB := Blk.new (w.alloc (.cells #[.bool (decide (A < 0)), la] 164)) #[.bool (decide (B < 0)), lb] 164
  have hb0 : Below w.heap.size w ((w.alloc (.cells #[.bool (decide (A < 0)), la] 164)).alloc (.cells #[.bool (decide (B < 0)), lb] 164)) := ((Below.refl _ _).alloc (Nat.le_refl _) _).alloc (by simp) _
  simp only [World.size_alloc] at kB
  have HV : Hid (∀ lo hi f, sqF A B f lo hi = sqV A B → ¬ lo < hi → lo = sqV A B) := Lib.hid (fun lo hi f h hn => by
    cases f with
    | zero => exact h
    | succ f => unfold sqF at h; rw [if_neg hn] at h; exact h)
  have hV : Hid (sqV A B = sqF A B 20001 (-10000) 10000) := rfl
  have HO : Hid (sqOk A B = (B * sqV A B == A)) := rfl
  have hvb : -10000 ≤ sqV A B ∧ sqV A B ≤ 10000 := sqF_bd A B _ _ _ (by omega)
  clear hA hB hlA hlB
  generalize decide (A < 0) = sa at *
  generalize decide (B < 0) = sb at *
  generalize sqV A B = V at *
  generalize sqOk A B = O at *
  have hsz := hb0.size
  go_enter Tryz.func180, Tryz.ntmps180
  go_upto_region 1 with (fail)
  generalize (w.alloc _).alloc _ = W at *
  have l1 := kA.lt
  have l2 := kB.lt
  generalize hrA : w.heap.size = rA at *
  generalize hrB : rA + 1 = rB at *
  go_wp2
  go_loopw [8, 9] (fun x y wr => ∃ (lo hi : Int) (f : Nat), x = .int .i64 lo ∧ y = .int .i64 hi ∧ (-10000 ≤ lo ∧ lo ≤ hi ∧ hi ≤ 10000) ∧ hi - lo < (f : Int) ∧ Hid (sqF A B f lo hi = V) ∧ Below W.heap.size W wr) (fun x y _ => (intOf y - intOf x).toNat)
  case atStart => exact ⟨-10000, 10000, 20001, rfl, rfl, by omega, by omega, by show _ = _; rw [hV.out], Below.refl _ _⟩
  case round =>
    obtain ⟨lo, hi, f, rfl, rfl, hr, hf, HF, hbl⟩ := hrel
    have xA := kA.next hbl
    have xB := kB.next hbl
    have lA := xA.lt
    have lB := xB.lt
    have hbw : Below rA w wr := below_step hbl (by omega) hb0
    by_cases hlt : lo < hi
    · have hm : lo ≤ (lo + hi) / 2 ∧ (lo + hi) / 2 < hi := by omega
      obtain ⟨g, rfl⟩ : ∃ g, f = g + 1 := ⟨f - 1, by omega⟩
      have HS : Hid ((A ≤ B * ((lo + hi) / 2) → sqF A B g lo ((lo + hi) / 2) = V) ∧ (¬ A ≤ B * ((lo + hi) / 2) → sqF A B g ((lo + hi) / 2 + 1) hi = V)) := by
        have h := HF.out
        unfold sqF at h
        rw [if_pos hlt] at h
        exact ⟨fun h1 => by rw [if_pos h1] at h; exact h, fun h1 => by rw [if_neg h1] at h; exact h⟩
      have HM := Lib.hid (c_floorTwo (lo + hi) (by omega))
      generalize (lo + hi) / 2 = mid at *
      go_wp2_with fail
      refine (HM.out _).mono ?_
      rintro e _ ⟨rfl, rfl⟩
      clear HM HF
      have a0 : wr.cell? ⟨rA, 0, none⟩ = some (.bool sa) := xA.cell 0
      have a1 : wr.cell? ⟨rA, 1, none⟩ = some la := xA.cell 1
      have b0 : wr.cell? ⟨rB, 0, none⟩ = some (.bool sb) := xB.cell 0
      have b1 : wr.cell? ⟨rB, 1, none⟩ = some lb := xB.cell 1
      go_upto_region 4 with (fail)
      obtain ⟨cv, hcv⟩ : ∃ cv, cmpN (B * mid) A = cv := ⟨_, rfl⟩
      have HG : Hid (0 ≤ cv ↔ A ≤ B * mid) := by rw [← hcv]; exact cmp_ge
      have HCV := Lib.hid hcv
      clear hcv
      refine wp_region_cls [] (fun _ => false) (fun _ => True) (fun _ => True) (by kernel_rfl) (trivial) ?_
      apply wpAnyF_hd ⟨wr.drew, (Over.refl _ _).drew, trivial⟩ [true, true, false, true] 3 (Closed.true) (fun _ _ => trivial) (by kernel_rfl) (by kernel_rfl) (by kernel_rfl) (by kernel_rfl) (by simp)
      · intro E hE hEN hEn; (repeat (first | (refine wpHL_take ?_; go_big_quiet_step (fail); refine wpQuiet_nil ?_) | refine wpHL_skip ?_)); exact wpHL_end rfl
      refine wpAnyF_ready [2] 2 (by kernel_rfl) (by kernel_rfl) (by simp) (AllF.cons ?_ AllF.nil)
      refine stepC_calle (some 23) (fun u => fun w' => WhR (B * mid) u w') (by rfl) (by rfl) (by rfl) (fun _ => by go_simp) (fun u => fun _ _ h hb => h.below hb) (fun w' hO hD => (HT.out mid w' (by omega) (below_step hO.below (by omega) hbw)).mono fun e w2 ⟨v, h1, h2, h3⟩ => ⟨v, h1, .of_below h3, h2.rd⟩) (fun u hne => ?_)
      simp only [Act.put, List.setIfInBounds_toArray, List.set_cons_succ, List.set_cons_zero]
      refine wpAnyF_ready [4] 1 (by kernel_rfl) (by kernel_rfl) (by simp) (AllF.cons ?_ AllF.nil)
      refine stepC_call (v := .int .i64 cv) (some 25) (fun _ => True) (by rfl) (by rfl) (by rfl) (fun _ => by go_simp) (Closed.true) (fun w' hO hD => (HC.out mid u w' (by omega) (below_step hO.below (by omega) hbw) hD).mono fun e w2 h => ⟨HCV.out ▸ h.1, .of_below h.2, trivial⟩) (fun hne => ?_)
      simp only [Act.put, List.setIfInBounds_toArray, List.set_cons_succ, List.set_cons_zero]
      apply wpAnyF_hd hne [false, false, false, false, false, true] 0 (Closed.true) (fun _ _ => trivial) (by kernel_rfl) (by kernel_rfl) (by kernel_rfl) (by kernel_rfl) (by simp)
      · intro E hE hEN hEn; (repeat (first | (refine wpHL_take ?_; go_big_quiet_step (fail); refine wpQuiet_nil ?_) | refine wpHL_skip ?_)); exact wpHL_end rfl
      refine wpAnyF_done (by kernel_rfl) (fun Wz hOz hDz => NoPanic.normal ?_) _
      try dsimp only
      have hbz := below_step hOz.below hbl.size hbl
      by_cases hge : 0 ≤ cv
      · have hle := HG.out.1 hge
        have HN := Lib.hid (HS.out.1 hle)
        clear HS HG HCV a0 a1 b0 b1
        go_wp2
        go_roundw
        case rel => exact ⟨lo, mid, g, rfl, rfl, by omega, by omega, HN, hbz⟩
        case measure => simp [intOf]; omega
      · have hle : ¬ A ≤ B * mid := fun h => hge (HG.out.2 h)
        have HN := Lib.hid (HS.out.2 (Int.not_le.1 hle))
        clear HS HG HCV a0 a1 b0 b1
        go_wp2
        go_roundw
        case rel => exact ⟨mid + 1, hi, g, by go_num, rfl, by omega, by omega, HN, hbz⟩
        case measure => simp [intOf]; omega
    · have hlo := HV.out lo hi f HF.out (Int.not_lt.1 hlt)
      subst hlo
      clear HF
      have a0 : wr.cell? ⟨rA, 0, none⟩ = some (.bool sa) := xA.cell 0
      have a1 : wr.cell? ⟨rA, 1, none⟩ = some la := xA.cell 1
      have b0 : wr.cell? ⟨rB, 0, none⟩ = some (.bool sb) := xB.cell 0
      have b1 : wr.cell? ⟨rB, 1, none⟩ = some lb := xB.cell 1
      obtain ⟨cv, hcv⟩ : ∃ cv, cmpN (B * lo) A = cv := ⟨_, rfl⟩
      have HG : Hid ((cv == 0) = O) := by rw [← hcv, HO.out]; exact cmp_eq
      have HCV := Lib.hid hcv
      clear hcv
      go_upto_region 7 with (fail)
      refine wp_region_cls [] (fun _ => false) (fun _ => True) (fun _ => True) (by kernel_rfl) (trivial) ?_
      apply wpAnyF_hd ⟨wr.drew, (Over.refl _ _).drew, trivial⟩ [true, true, true, false, true] 5 (Closed.true) (fun _ _ => trivial) (by kernel_rfl) (by kernel_rfl) (by kernel_rfl) (by kernel_rfl) (by simp)
      · intro E hE hEN hEn; (repeat (first | (refine wpHL_take ?_; go_big_quiet_step (fail); refine wpQuiet_nil ?_) | refine wpHL_skip ?_)); exact wpHL_end rfl
      refine wpAnyF_ready [3] 4 (by kernel_rfl) (by kernel_rfl) (by simp) (AllF.cons ?_ AllF.nil)
      refine stepC_calle (some 33) (fun u => fun w' => WhR (B * lo) u w') (by rfl) (by rfl) (by rfl) (fun _ => by go_simp) (fun u => fun _ _ h hb => h.below hb) (fun w' hO hD => (HT.out lo w' (by omega) (below_step hO.below (by omega) hbw)).mono fun e w2 ⟨v, h1, h2, h3⟩ => ⟨v, h1, .of_below h3, h2.rd⟩) (fun u hne => ?_)
      simp only [Act.put, List.setIfInBounds_toArray, List.set_cons_succ, List.set_cons_zero]
      refine wpAnyF_ready [5] 3 (by kernel_rfl) (by kernel_rfl) (by simp) (AllF.cons ?_ AllF.nil)
      refine stepC_call (v := .int .i64 cv) (some 35) (fun _ => True) (by rfl) (by rfl) (by rfl) (fun _ => by go_simp) (Closed.true) (fun w' hO hD => (HC.out lo u w' (by omega) (below_step hO.below (by omega) hbw) hD).mono fun e w2 h => ⟨HCV.out ▸ h.1, .of_below h.2, trivial⟩) (fun hne => ?_)
      simp only [Act.put, List.setIfInBounds_toArray, List.set_cons_succ, List.set_cons_zero]
      apply wpAnyF_hd hne [false, false, false, false, false, false, true, true, true] 0 (Closed.true) (fun _ _ => trivial) (by kernel_rfl) (by kernel_rfl) (by kernel_rfl) (by kernel_rfl) (by simp)
      · intro E hE hEN hEn; (repeat (first | (refine wpHL_take ?_; go_big_quiet_step (fail); refine wpQuiet_nil ?_) | refine wpHL_skip ?_)); exact wpHL_end rfl
      refine wpAnyF_done (by kernel_rfl) (fun Wz hOz hDz => NoPanic.normal ?_) _
      try dsimp only
      have hbz : Below rA w Wz := below_step hOz.below (by omega) hbw
      have hg := HG.out
      generalize (cv == 0) = Q at *
      subst hg
      go_wp2
      go_ret2
      exact ⟨rfl, hbz⟩
end Go.Proofs.YtbcjlhbpgcjddaaGreatDoor

/- RootB -/
namespace Go.Proofs.YtbcjlhbpgcjddaaGreatDoor
open Go Ieee
theorem sqrtIntB (n : Nat) (hn : n ≤ 4000000000000) : ∃ (s m : Nat), double.sqrt (double.nearest false n 0) = some s ∧ (double.read s).toInt .zero = some (m : Int) ∧ m ≤ 10000000 := by
  by_cases h0 : n = 0
  · subst h0
    exact ⟨0, 0, by decide +kernel, by decide +kernel, by omega⟩
  · have hlog : n.log2 < 42 := lg_lt h0 (by omega)
    obtain ⟨m1, i, hr, a1, a2, a3, a4⟩ := read_write h0 (place := 0) (by omega) (by omega)
    unfold Format.sqrt
    rw [hr]
    have hl1 : m1.log2 = 52 := lg_iff a1 a2
    unfold Datum.root
    simp only
    rw [if_neg (by omega), if_neg (by decide)]
    simp only [hl1, show double.fractionBits + 2 = 54 from rfl]
    obtain ⟨c, hc, hc1⟩ : ∃ c : Nat, 2 * 54 - 52 + ((i - (2 * 54 - 52 : Nat)) % 2).toNat = c ∧ (56 ≤ c ∧ c ≤ 57) := ⟨_, rfl, by omega, by omega⟩
    rw [hc]
    have hw := rootFrom_le (m1 <<< c) ((m1 <<< c).log2 / 2 + 1) 0 (Nat.zero_le _)
    generalize Datum.rootFrom (m1 <<< c) ((m1 <<< c).log2 / 2 + 1) 0 = W at hw
    have hN : m1 <<< c < 2 ^ 110 ∧ 1 ≤ m1 <<< c := by
      rw [Nat.shiftLeft_eq]
      have h1 : 2 ^ c ≤ 2 ^ 57 := Nat.pow_le_pow_right (by omega) hc1.2
      have h2 := Nat.mul_le_mul_left m1 h1
      have h3 : 1 * 1 ≤ m1 * 2 ^ c := Nat.mul_le_mul (show 1 ≤ m1 by omega) (Nat.one_le_two_pow)
      generalize m1 * 2 ^ c = x at *
      omega
    have hW : W < 2 ^ 55 := by
      rcases Nat.lt_or_ge W (2 ^ 55) with h | h
      · exact h
      · have := Nat.mul_le_mul h h; omega
    obtain ⟨b, hb, hb1, hb0⟩ : ∃ b : Nat, (W * W != m1 <<< c).toNat = b ∧ b ≤ 1 ∧ (W = 0 → b = 1) := ⟨_, rfl, Bool.toNat_le _, fun h => by
      subst h
      have : (0 * 0 != m1 <<< c) = true := by simp; omega
      rw [this]; rfl⟩
    rw [hb]
    have hM : 2 * W + b ≠ 0 := by
      intro h
      have : W = 0 := by omega
      have := hb0 this
      omega
    have hlM : (2 * W + b).log2 < 56 := lg_lt hM (by omega)
    obtain ⟨m2, p, hr2, b1, b2, b3, b4⟩ := read_write hM (place := (i - c) / 2 - 1) (by omega) (by omega)
    refine ⟨double.nearest false (2 * W + b) ((i - c) / 2 - 1), m2 / (1 <<< min (-p).toNat (m2.log2 + 2)), rfl, ?_, ?_⟩
    · rw [hr2]
      unfold Datum.toInt Datum.integral
      simp only [cut_zero_le, show p.toNat = 0 by omega, Nat.shiftLeft_zero]
      simp [signed]
    · have hl2 : m2.log2 = 52 := lg_iff b1 b2
      rw [hl2, Nat.shiftLeft_eq, Nat.one_mul]
      have h1 : 2 ^ 30 ≤ 2 ^ min (-p).toNat (52 + 2) := Nat.pow_le_pow_right (by omega) (by omega)
      have h2 : m2 / 2 ^ min (-p).toNat (52 + 2) ≤ m2 / 2 ^ 30 := Nat.div_le_div_left h1 (by decide)
      have h3 : m2 / 2 ^ 30 ≤ 2 ^ 23 := Nat.le_of_lt_succ ((Nat.div_lt_iff_lt_mul (by decide)).2 (by omega))
      omega
end Go.Proofs.YtbcjlhbpgcjddaaGreatDoor
namespace Go.Proofs.YtbcjlhbpgcjddaaGreatDoor
open Go.RowKit
set_option maxHeartbeats 2000000 in
theorem c_exactRootB (n : Int) (hn : 0 ≤ n ∧ n ≤ 4000000000000) (w : World) :
    Calls Tryz.prog 63 #[.int .i64 n] w fun e w' => e = .returned (.tuple #[.int .i64 (if sqB n then rtI n else 0), .bool (sqB n)]) ∧ w = w' := by
  obtain ⟨k, rfl⟩ := Int.eq_ofNat_of_zero_le hn.1
  obtain ⟨s, m, e1, e2, hm⟩ := sqrtIntB k (by omega)
  have hfl : floatOfInt .f64 (k : Int) = Ieee.double.nearest false k 0 := by
    show Ieee.double.nearest (decide ((k : Int) < 0)) (k : Int).natAbs 0 = _
    rw [show decide ((k : Int) < 0) = false by simp, Int.natAbs_natCast]
  have hcv : ∀ w, (convert 3 133 (.int .i64 (k : Int))).run Tryz.prog w = .ok (.float .f64 (Ieee.double.nearest false k 0)) w := fun w => by
    rw [← hfl]; exact run_convert_int_float w 3 133 .i64 .f64 (k : Int) (by kernel_rfl) (by kernel_rfl)
  have hfi : floatToIntVal .f64 s .i64 = some (m : Int) := by
    have e3 : (FloatKind.f64.decode s).toInt .zero = some (m : Int) := e2
    unfold floatToIntVal
    rw [e3]
    have a1 : IntKind.i64.min = -9223372036854775808 := by decide
    have a2 : IntKind.i64.max = 9223372036854775807 := by decide
    simp only
    rw [a1, a2, if_pos (by omega)]
  have hcb : ∀ w, (convert 133 3 (.float .f64 s)).run Tryz.prog w = .ok (.int .i64 (m : Int)) w := fun w => run_convert_float_int w 133 3 .f64 .i64 s (m : Int) (by kernel_rfl) (by kernel_rfl) hfi
  have hsq := fun w => c_mathSqrt _ s e1 w
  have HS := Lib.hid hsq
  clear e1 e2 hfl hfi hsq
  generalize Ieee.double.nearest false k 0 = f at hcv HS
  have hsp := rtI_spec hn.1
  have hr0 := rtI_nonneg (k : Int)
  have hlt := rtI_le (b := 2000001) hn.1 (by omega) (by omega)
  have HU : Hid (∀ r : Int, 0 ≤ r → r * r ≤ (k : Int) → (k : Int) < (r + 1) * (r + 1) → r = rtI k) := fun r h0 h1 h2 => rtI_uniq h0 h1 h2
  generalize hk : (k : Int) = n at *
  have HSQ : Hid (sqB n = (rtI n * rtI n == n)) := rfl
  generalize rtI n = q at *
  generalize sqB n = b at *
  clear hk
  go_enter Tryz.func63, Tryz.ntmps63
  go_wp2_with (go_at_call 119; refine (HS.out _).mono ?_; rintro e w' ⟨rfl, rfl⟩)
  clear hcv hcb HS
  go_loop [4] (fun x => ∃ r : Int, x = .int .i64 r ∧ 0 ≤ r ∧ r ≤ 10000000) (fun x => (intOf x).toNat)
  case atStart => exact ⟨m, rfl, by omega, by omega⟩
  case round =>
    obtain ⟨r, rfl, h0, h1⟩ := hrel
    have hrr : 0 ≤ r * r ∧ r * r ≤ 100000000000000 := ⟨Int.mul_nonneg h0 h0, by have := Int.mul_le_mul h1 h1 h0 (by omega); omega⟩
    by_cases hgt : n < r * r
    · have hr1 : 1 ≤ r := by
        rcases Int.lt_or_le 0 r with h | h
        · omega
        · obtain rfl : r = 0 := by omega
          omega
      go_wp2
      go_round
      case rel => exact ⟨r - 1, rfl, by omega, by omega⟩
      case measure => simp [intOf]; omega
    · go_wp2
      go_loop [4] (fun x => ∃ r : Int, x = .int .i64 r ∧ 0 ≤ r ∧ r ≤ 10000000 ∧ Hid (r * r ≤ n)) (fun x => (10000000 - intOf x).toNat)
      case atStart => exact ⟨r, rfl, h0, h1, by show _ ≤ _; omega⟩
      case round =>
        clear h0 h1 hrr hgt
        obtain ⟨r, rfl, h0, h1, H⟩ := hrel
        have hr1 : r < 2000001 := sq_lt (a := 2000001) (by omega) h0 (by have := H.out; omega)
        have hrr : 0 ≤ (r + 1) * (r + 1) ∧ (r + 1) * (r + 1) ≤ 100000000000000 := ⟨Int.mul_nonneg (by omega) (by omega), by have := Int.mul_le_mul (show r + 1 ≤ 10000000 by omega) (show r + 1 ≤ 10000000 by omega) (by omega) (by omega); omega⟩
        have hrr0 : 0 ≤ r * r ∧ r * r ≤ 100000000000000 := ⟨Int.mul_nonneg h0 h0, by have := Int.mul_le_mul h1 h1 h0 (by omega); omega⟩
        by_cases hle : (r + 1) * (r + 1) ≤ n
        · have H2 := Lib.hid hle
          go_wp2
          go_round
          case rel => exact ⟨r + 1, rfl, by omega, by omega, H2⟩
          case measure => simp [intOf]; omega
        · have he := HU.out r h0 H.out (by omega)
          subst he
          cases hb : (r * r == n)
          · have hb' : (r * r != n) = true := by unfold bne; rw [hb]; rfl
            have HB : Hid (b = false) := by show _ = _; rw [HSQ.out, hb]
            have hbb := HB.out
            clear HSQ HB
            subst hbb
            go_wp2
            go_ret2
            exact ⟨rfl, rfl⟩
          · have hb' : (r * r != n) = false := by unfold bne; rw [hb]; rfl
            have HB : Hid (b = true) := by show _ = _; rw [HSQ.out, hb]
            have hbb := HB.out
            clear HSQ HB
            subst hbb
            go_wp2
            go_ret2
            exact ⟨rfl, rfl⟩
theorem sqB_neg {n : Int} (h : n < 0) : sqB n = false := by
  have e : rtI n = 0 := by unfold rtI; rw [show n.toNat = 0 by omega]; rfl
  unfold sqB
  rw [e]
  simp
  omega
theorem c_exactRootA (n : Int) (hn : -4000000000000 ≤ n ∧ n ≤ 4000000000000) (w : World) :
    Calls Tryz.prog 63 #[.int .i64 n] w fun e w' => e = .returned (.tuple #[.int .i64 (if sqB n then rtI n else 0), .bool (sqB n)]) ∧ w = w' := by
  by_cases h : 0 ≤ n
  · exact c_exactRootB n ⟨h, hn.2⟩ w
  · have h0 : n < 0 := by omega
    rw [sqB_neg h0]
    go_enter Tryz.func63, Tryz.ntmps63
    go_wp2
    go_ret2
    exact ⟨rfl, rfl⟩
end Go.Proofs.YtbcjlhbpgcjddaaGreatDoor

/- Trp -/
namespace Go.Proofs.YtbcjlhbpgcjddaaGreatDoor
open Go.RowKit

/-- the line's slope in lowest terms, and the quotient whose value is the sum's x -/
def adN (A X1 Y1 E1 X2 Y2 E2 : Int) : Int := (slN A X1 Y1 E1 X2 Y2 E2).tdiv (gcdI (slN A X1 Y1 E1 X2 Y2 E2) (slD X1 Y1 E1 X2 Y2 E2))
def adM (A X1 Y1 E1 X2 Y2 E2 : Int) : Int := (slD X1 Y1 E1 X2 Y2 E2).tdiv (gcdI (slN A X1 Y1 E1 X2 Y2 E2) (slD X1 Y1 E1 X2 Y2 E2))
def adT (n m X1 E1 X2 E2 : Int) : Int := n * n * (E1 * E1 * E2 * E2) + -(m * m * (X1 * E2 * E2 + X2 * E1 * E1))
def adB (m E1 E2 : Int) : Int := m * m * (E1 * E1 * E2 * E2)
/-- the search for the sum's e -/
noncomputable def adF (A B X1 Y1 E1 n m T D : Int) : Nat → Int → Option (Int × Int × Int)
  | 0, _ => none
  | f + 1, e => if sqOk (T * (e * e)) D = true ∧ gcdI (sqV (T * (e * e)) D) e = 1 ∧ sqB (cvV A B (sqV (T * (e * e)) D) e) = true then
      some (sqV (T * (e * e)) D, (if decide (n * (X1 * e * e - sqV (T * (e * e)) D * E1 * E1) * E1 - Y1 * m * e * e < 0) = decide (m < 0) then rtI (cvV A B (sqV (T * (e * e)) D) e) else -rtI (cvV A B (sqV (T * (e * e)) D) e)), e)
    else adF A B X1 Y1 E1 n m T D f (e + 1)
def adR : Option (Int × Int × Int) → Value
  | some (x, y, e) => .tuple #[.agg #[.int .i64 x, .int .i64 y, .int .i64 e], .bool true]
  | none => .tuple #[.agg #[.int .i64 0, .int .i64 0, .int .i64 0], .bool false]
theorem rt_small {q : Int} (h : -4000000000000 ≤ q ∧ q ≤ 4000000000000) : 0 ≤ rtI q ∧ rtI q ≤ 2000001 := by
  refine ⟨rtI_nonneg q, ?_⟩
  by_cases h0 : 0 ≤ q
  · exact Int.le_of_lt (rtI_le (b := 2000001) h0 (by omega) (by omega))
  · have e : rtI q = 0 := by
      unfold rtI
      rw [show q.toNat = 0 by omega]
      simp [rt]
    omega
/-- a finite point of a curve -/
def FinP (A B X Y E : Int) : Prop := (-10000 ≤ X ∧ X ≤ 10000) ∧ (1 ≤ E ∧ E ≤ 20) ∧ gcdI X E = 1 ∧ (-3000000 ≤ Y ∧ Y ≤ 3000000) ∧ Y * Y = cvV A B X E

theorem sq_dvd {x e : Int} {K : Int} (h : gcdI x e = 1) (h2 : e * e ∣ x * K) : e * e ∣ K := by
  have h1 : Nat.Coprime e.natAbs x.natAbs := by
    unfold gcdI at h
    have : Int.gcd x e = 1 := by omega
    exact (Nat.coprime_comm.1 this)
  have h3 : Nat.Coprime (e.natAbs * e.natAbs) x.natAbs := Nat.Coprime.mul_left h1 h1
  rw [← Int.natAbs_dvd_natAbs, Int.natAbs_mul, Int.natAbs_mul] at h2
  rw [← Int.natAbs_dvd_natAbs, Int.natAbs_mul]
  exact h3.dvd_of_dvd_mul_left h2
theorem same_x {X1 E1 X2 E2 : Int} (h1 : gcdI X1 E1 = 1) (h2 : gcdI X2 E2 = 1) (p1 : 1 ≤ E1) (p2 : 1 ≤ E2) (h : X2 * E1 * E1 = X1 * E2 * E2) : X1 = X2 ∧ E1 = E2 := by
  have d1 : E1 * E1 ∣ E2 * E2 := sq_dvd h1 ⟨X2, by grind⟩
  have d2 : E2 * E2 ∣ E1 * E1 := sq_dvd h2 ⟨X1, by grind⟩
  have q1 := Int.mul_pos (show 0 < E1 by omega) (show 0 < E1 by omega)
  have q2 := Int.mul_pos (show 0 < E2 by omega) (show 0 < E2 by omega)
  have e1 := Int.le_of_dvd q2 d1
  have e2 := Int.le_of_dvd q1 d2
  have e3 : E1 * E1 = E2 * E2 := by omega
  have e4 : E1 = E2 := by
    rcases Int.lt_trichotomy E1 E2 with hh | hh | hh
    · have := Int.mul_lt_mul hh (Int.le_of_lt hh) (by omega) (by omega); omega
    · exact hh
    · have := Int.mul_lt_mul hh (Int.le_of_lt hh) (by omega) (by omega); omega
  subst e4
  refine ⟨?_, rfl⟩
  have : (X2 - X1) * (E1 * E1) = 0 := by grind
  rcases Int.mul_eq_zero.1 this with h | h <;> omega
theorem sl_ne {A B X1 Y1 E1 X2 Y2 E2 : Int} (hp : FinP A B X1 Y1 E1) (hq : FinP A B X2 Y2 E2) (hno : ¬ (X1 = X2 ∧ Y1 = -Y2 ∧ E1 = E2)) : slD X1 Y1 E1 X2 Y2 E2 ≠ 0 := by
  obtain ⟨hX1, hE1, g1, hY1, c1⟩ := hp
  obtain ⟨hX2, hE2, g2, hY2, c2⟩ := hq
  unfold slD
  split
  · rename_i h
    obtain ⟨rfl, rfl, rfl⟩ := h
    intro h0
    rcases Int.mul_eq_zero.1 h0 with h | h
    · exact hno ⟨rfl, by omega, rfl⟩
    · omega
  · rename_i h
    intro h0
    have h3 : X2 * E1 * E1 - X1 * E2 * E2 = 0 := by
      rcases Int.mul_eq_zero.1 h0 with h | h
      · rcases Int.mul_eq_zero.1 h with h | h <;> omega
      · exact h
    obtain ⟨rfl, rfl⟩ := same_x g1 g2 hE1.1 hE2.1 (by omega)
    have h4 : (Y1 - Y2) * (Y1 + Y2) = 0 := by rw [← c2] at c1; grind
    rcases Int.mul_eq_zero.1 h4 with h5 | h5
    · exact h ⟨rfl, by omega, rfl⟩
    · exact hno ⟨rfl, by omega, rfl⟩
theorem low_cop {a b : Int} (h : gcdI a b ≠ 0) : gcdI (a.tdiv (gcdI a b)) (b.tdiv (gcdI a b)) = 1 := by
  unfold gcdI at *
  have e : ∀ x : Int, (x.tdiv (Int.gcd a b : Nat)).natAbs = x.natAbs / Int.gcd a b := fun x => by rw [Int.natAbs_tdiv]; rfl
  unfold Int.gcd at *
  rw [e a, e b, Nat.gcd_div (Nat.gcd_dvd_left _ _) (Nat.gcd_dvd_right _ _), Nat.div_self (by omega)]
  rfl
theorem ad_small {n m x e X1 E1 X2 E2 : Int} (hc : gcdI n m = 1) (hX1 : -10000 ≤ X1 ∧ X1 ≤ 10000) (hX2 : -10000 ≤ X2 ∧ X2 ≤ 10000) (hx : -10000 ≤ x ∧ x ≤ 10000) (hE1 : 1 ≤ E1 ∧ E1 ≤ 20) (hE2 : 1 ≤ E2 ∧ E2 ≤ 20) (he : 1 ≤ e ∧ e ≤ 20)
    (h : (n * n * (E1 * E1 * E2 * E2) + -(m * m * (X1 * E2 * E2 + X2 * E1 * E1))) * (e * e) = m * m * (E1 * E1 * E2 * E2) * x) : (-8000 ≤ m ∧ m ≤ 8000) ∧ (-2000000000 ≤ n ∧ n ≤ 2000000000) := by
  have k : n * n * (E1 * E1 * E2 * E2 * (e * e)) = m * m * (x * (E1 * E1 * E2 * E2) + (e * e) * (X1 * E2 * E2 + X2 * E1 * E1)) := by grind
  have d1 : m * m ∣ n * (n * (E1 * E1 * E2 * E2 * (e * e))) := ⟨_, by rw [← k]; grind⟩
  have d2 : m * m ∣ E1 * E1 * E2 * E2 * (e * e) := sq_dvd hc (sq_dvd hc d1)
  have a1 := mulb 20 20 (x := E1) (y := E1) (by omega) (by omega)
  have a2 := mulb 400 20 (x := E1 * E1) (y := E2) (by omega) (by omega)
  have a3 := mulb 8000 20 (x := E1 * E1 * E2) (y := E2) (by omega) (by omega)
  have a4 := mulb 20 20 (x := e) (y := e) (by omega) (by omega)
  have a5 := mulb 160000 400 (x := E1 * E1 * E2 * E2) (y := e * e) (by omega) (by omega)
  have p1 := Int.mul_pos (show 0 < E1 by omega) (show 0 < E1 by omega)
  have p2 := Int.mul_pos (Int.mul_pos p1 (show 0 < E2 by omega)) (show 0 < E2 by omega)
  have p3 := Int.mul_pos (show 0 < e by omega) (show 0 < e by omega)
  have p4 := Int.mul_pos p2 p3
  have l1 := Int.le_of_dvd p4 d2
  have hm1 : -8000 ≤ m ∧ m ≤ 8000 := by
    constructor
    · rcases Int.lt_or_le m (-8000) with hh | hh
      · have := Int.mul_le_mul (show 8001 ≤ -m by omega) (show 8001 ≤ -m by omega) (by omega) (by omega)
        rw [Int.neg_mul_neg] at this; omega
      · exact hh
    · rcases Int.lt_or_le 8000 m with hh | hh
      · have := Int.mul_le_mul (show 8001 ≤ m by omega) (show 8001 ≤ m by omega) (by omega) (by omega)
        omega
      · exact hh
  refine ⟨hm1, ?_⟩
  have b1 := mulb 8000 8000 (x := m) (y := m) (by omega) (by omega)
  have b2 := mulb 10000 160000 (x := x) (y := E1 * E1 * E2 * E2) (by omega) (by omega)
  have b3 := mulb 10000 20 (x := X1) (y := E2) (by omega) (by omega)
  have b4 := mulb 200000 20 (x := X1 * E2) (y := E2) (by omega) (by omega)
  have b5 := mulb 10000 20 (x := X2) (y := E1) (by omega) (by omega)
  have b6 := mulb 200000 20 (x := X2 * E1) (y := E1) (by omega) (by omega)
  have b7 := mulb 400 8000000 (x := e * e) (y := X1 * E2 * E2 + X2 * E1 * E1) (by omega) (by omega)
  have b8 := mulb 64000000 4800000000 (x := m * m) (y := x * (E1 * E1 * E2 * E2) + (e * e) * (X1 * E2 * E2 + X2 * E1 * E1)) (by omega) (by omega)
  have n0 : 0 ≤ n * n := by rcases Int.le_total 0 n with hh | hh; exact Int.mul_nonneg hh hh; have := Int.mul_nonneg (show 0 ≤ -n by omega) (show 0 ≤ -n by omega); rwa [Int.neg_mul_neg] at this
  have n1 : n * n * 1 ≤ n * n * (E1 * E1 * E2 * E2 * (e * e)) := Int.mul_le_mul_of_nonneg_left (by omega) n0
  have n2 : n * n ≤ 307200000000000000 := by omega
  constructor
  · rcases Int.lt_or_le n (-2000000000) with hh | hh
    · have := Int.mul_le_mul (show 2000000000 ≤ -n by omega) (show 2000000000 ≤ -n by omega) (by omega) (by omega)
      rw [Int.neg_mul_neg] at this; omega
    · exact hh
  · rcases Int.lt_or_le 2000000000 n with hh | hh
    · have := Int.mul_le_mul (show 2000000000 ≤ n by omega) (show 2000000000 ≤ n by omega) (by omega) (by omega)
      omega
    · exact hh
theorem FinP.ptIn {A B X Y E : Int} (h : FinP A B X Y E) : PtIn X Y E := ⟨h.1, h.2.2.2.1, by have := h.2.1; omega⟩
theorem slN_bd {A X1 Y1 E1 X2 Y2 E2 : Int} (hA : -1000 ≤ A ∧ A ≤ 1000) (hp : PtIn X1 Y1 E1) (hq : PtIn X2 Y2 E2) : (-48000000000 ≤ slN A X1 Y1 E1 X2 Y2 E2 ∧ slN A X1 Y1 E1 X2 Y2 E2 ≤ 48000000000) ∧ (-3200000000 ≤ slD X1 Y1 E1 X2 Y2 E2 ∧ slD X1 Y1 E1 X2 Y2 E2 ≤ 3200000000) := by
  obtain ⟨hX1, hY1, hE1⟩ := hp
  obtain ⟨hX2, hY2, hE2⟩ := hq
  obtain ⟨z1, z2, z3, z4⟩ := cub_bd 1000 (x := A) (e := E1) (by omega) hE1
  have x1 := mulb (x := 3 * X1) (y := X1) 30000 10000 (by omega) (by omega)
  have y1 := mulb (x := 2 * Y1) (y := E1) 6000000 20 (by omega) (by omega)
  obtain ⟨a1, a2, a3, _⟩ := cub_bd 3000000 (x := Y2) (e := E1) (by omega) hE1
  obtain ⟨b1, b2, b3, _⟩ := cub_bd 3000000 (x := Y1) (e := E2) (by omega) hE2
  obtain ⟨c1, c2, _, _⟩ := cub_bd 10000 (x := X2) (e := E1) (by omega) hE1
  obtain ⟨d1, d2, _, _⟩ := cub_bd 10000 (x := X1) (e := E2) (by omega) hE2
  have e1 := mulb (x := E1) (y := E2) 20 20 (by omega) (by omega)
  have e2 := mulb (x := E1 * E2) (y := X2 * E1 * E1 - X1 * E2 * E2) 400 8000000 (by omega) (by omega)
  unfold slN slD
  split <;> omega
theorem ad_facts {A B X1 Y1 E1 X2 Y2 E2 : Int} (hA : -1000 ≤ A ∧ A ≤ 1000) (hp : FinP A B X1 Y1 E1) (hq : FinP A B X2 Y2 E2) (hno : ¬ (X1 = X2 ∧ Y1 = -Y2 ∧ E1 = E2)) :
    gcdI (slN A X1 Y1 E1 X2 Y2 E2) (slD X1 Y1 E1 X2 Y2 E2) ≠ 0 ∧ (-48000000000 ≤ adN A X1 Y1 E1 X2 Y2 E2 ∧ adN A X1 Y1 E1 X2 Y2 E2 ≤ 48000000000) ∧ (-3200000000 ≤ adM A X1 Y1 E1 X2 Y2 E2 ∧ adM A X1 Y1 E1 X2 Y2 E2 ≤ 3200000000) ∧
    (∀ e x : Int, (1 ≤ e ∧ e ≤ 20) → (-10000 ≤ x ∧ x ≤ 10000) → adT (adN A X1 Y1 E1 X2 Y2 E2) (adM A X1 Y1 E1 X2 Y2 E2) X1 E1 X2 E2 * (e * e) = adB (adM A X1 Y1 E1 X2 Y2 E2) E1 E2 * x → (-8000 ≤ adM A X1 Y1 E1 X2 Y2 E2 ∧ adM A X1 Y1 E1 X2 Y2 E2 ≤ 8000) ∧ (-2000000000 ≤ adN A X1 Y1 E1 X2 Y2 E2 ∧ adN A X1 Y1 E1 X2 Y2 E2 ≤ 2000000000)) := by
  have hne := sl_ne hp hq hno
  have hd : gcdI (slN A X1 Y1 E1 X2 Y2 E2) (slD X1 Y1 E1 X2 Y2 E2) ≠ 0 := by have := (gcdI_bd (slN A X1 Y1 E1 X2 Y2 E2) _ (.inr hne)).1; omega
  obtain ⟨b1, b2⟩ := slN_bd hA hp.ptIn hq.ptIn
  have t1 := tdiv_abs (slN A X1 Y1 E1 X2 Y2 E2) (gcdI (slN A X1 Y1 E1 X2 Y2 E2) (slD X1 Y1 E1 X2 Y2 E2))
  have t2 := tdiv_abs (slD X1 Y1 E1 X2 Y2 E2) (gcdI (slN A X1 Y1 E1 X2 Y2 E2) (slD X1 Y1 E1 X2 Y2 E2))
  refine ⟨hd, by unfold adN; omega, by unfold adM; omega, fun e x he hx h => ?_⟩
  exact ad_small (low_cop hd) hp.1 hq.1 hx hp.2.1 hq.2.1 he h
/-- the sum of two finite points that are not opposite -/
noncomputable def adS (A B X1 Y1 E1 X2 Y2 E2 : Int) : Option (Int × Int × Int) := adF A B X1 Y1 E1 (adN A X1 Y1 E1 X2 Y2 E2) (adM A X1 Y1 E1 X2 Y2 E2) (adT (adN A X1 Y1 E1 X2 Y2 E2) (adM A X1 Y1 E1 X2 Y2 E2) X1 E1 X2 E2) (adB (adM A X1 Y1 E1 X2 Y2 E2) E1 E2) 20 1
theorem adF_fin {A B X1 Y1 E1 n m T D : Int} (hA : -1000 ≤ A ∧ A ≤ 1000) (hB : -10000 ≤ B ∧ B ≤ 10000) : ∀ (f : Nat) (e : Int) (r : Int × Int × Int), 1 ≤ e → e + f ≤ 21 → adF A B X1 Y1 E1 n m T D f e = some r → FinP A B r.1 r.2.1 r.2.2
  | 0, e, r, _, _, h => by unfold adF at h; cases h
  | f + 1, e, r, h1, h2, h => by
    unfold adF at h
    split at h
    · rename_i hc
      have hx : -10000 ≤ sqV (T * (e * e)) D ∧ sqV (T * (e * e)) D ≤ 10000 := sqF_bd _ _ _ _ _ (by omega)
      have he : 1 ≤ e ∧ e ≤ 20 := by omega
      have hr := rt_small (cv_lt hA hB hx he)
      have hq : rtI (cvV A B (sqV (T * (e * e)) D) e) * rtI (cvV A B (sqV (T * (e * e)) D) e) = cvV A B (sqV (T * (e * e)) D) e := eq_of_beq hc.2.2
      cases h
      refine ⟨hx, he, hc.2.1, ?_, ?_⟩
      · dsimp only
        split <;> omega
      · dsimp only
        split
        · exact hq
        · rw [Int.neg_mul_neg]; exact hq
    · exact adF_fin hA hB f (e + 1) r (by omega) (by omega) h
theorem adS_fin {A B X1 Y1 E1 X2 Y2 E2 : Int} (hA : -1000 ≤ A ∧ A ≤ 1000) (hB : -10000 ≤ B ∧ B ≤ 10000) {r : Int × Int × Int} (h : adS A B X1 Y1 E1 X2 Y2 E2 = some r) : FinP A B r.1 r.2.1 r.2.2 := adF_fin hA hB 20 1 r (by omega) (by omega) h
/-- a point of a curve: infinity or a finite one -/
def PtV (A B X Y E : Int) : Prop := (X = 0 ∧ Y = 0 ∧ E = 0) ∨ FinP A B X Y E
/-- the sum of two points -/
noncomputable def adP (A B : Int) (p q : Int × Int × Int) : Option (Int × Int × Int) :=
  if p.2.2 = 0 then some q else if q.2.2 = 0 then some p else if p.1 = q.1 ∧ p.2.1 = -q.2.1 ∧ p.2.2 = q.2.2 then some (0, 0, 0) else adS A B p.1 p.2.1 p.2.2 q.1 q.2.1 q.2.2
theorem adP_ok {A B : Int} {p q r : Int × Int × Int} (hA : -1000 ≤ A ∧ A ≤ 1000) (hB : -10000 ≤ B ∧ B ≤ 10000) (hp : PtV A B p.1 p.2.1 p.2.2) (hq : PtV A B q.1 q.2.1 q.2.2) (h : adP A B p q = some r) : PtV A B r.1 r.2.1 r.2.2 := by
  unfold adP at h
  split at h
  · cases h; exact hq
  · split at h
    · cases h; exact hp
    · split at h
      · cases h; exact .inl ⟨rfl, rfl, rfl⟩
      · exact .inr (adS_fin hA hB h)
end Go.Proofs.YtbcjlhbpgcjddaaGreatDoor

/- OdP -/
namespace Go.Proofs.YtbcjlhbpgcjddaaGreatDoor
open Go.RowKit

/-- the order of a point; `now` is one multiple less than n -/
noncomputable def odF (A B : Int) (p : Int × Int × Int) : Nat → Int → Int × Int × Int → Option Int
  | 0, _, _ => none
  | f + 1, n, now => match adP A B now p with
    | none => none
    | some r => if r.2.2 = 0 then some n else odF A B p f (n + 1) r
noncomputable def odV (A B : Int) (p : Int × Int × Int) : Option Int := odF A B p 12 1 (0, 0, 0)
def odR : Option Int → Value
  | some n => .tuple #[.int .i64 n, .bool true]
  | none => .tuple #[.int .i64 0, .bool false]
theorem odF_bd {A B : Int} {p : Int × Int × Int} : ∀ (f : Nat) (n : Int) (now : Int × Int × Int) (k : Int), odF A B p f n now = some k → n ≤ k ∧ k < n + f
  | 0, n, now, k, h => by unfold odF at h; cases h
  | f + 1, n, now, k, h => by
    unfold odF at h
    split at h
    · cases h
    · split at h
      · cases h; omega
      · have := odF_bd f (n + 1) _ k h; omega

/-- the candidates at x -/
noncomputable def cdAt (A B x : Int) : List (Int × Int × Int) :=
  if sqB (cvV A B x 1) = true then (if rtI (cvV A B x 1) = 0 then [(x, 0, 1)] else if (disc A B).tmod (rtI (cvV A B x 1) * rtI (cvV A B x 1)) = 0 then [(x, -rtI (cvV A B x 1), 1), (x, rtI (cvV A B x 1), 1)] else []) else []
noncomputable def cdF (A B : Int) : Nat → Int → List (Int × Int × Int)
  | 0, _ => []
  | f + 1, x => cdAt A B x ++ cdF A B f (x + 1)
noncomputable def cdL (A B : Int) : List (Int × Int × Int) := cdF A B 6001 (-3000)
noncomputable def toL (A B : Int) : List (Int × Int × Int) := (0, 0, 0) :: (cdL A B).filter fun p => (odV A B p).isSome
theorem cdAt_len (A B x : Int) : (cdAt A B x).length ≤ 2 := by
  unfold cdAt
  split
  · split
    · simp
    · split <;> simp
  · simp
theorem cdF_len (A B : Int) : ∀ (f : Nat) (x : Int), (cdF A B f x).length ≤ 2 * f
  | 0, x => by simp [cdF]
  | f + 1, x => by
    have h1 := cdAt_len A B x
    have h2 := cdF_len A B f (x + 1)
    unfold cdF
    rw [List.length_append]
    omega
theorem cdAt_mem {A B x : Int} {p : Int × Int × Int} (h : p ∈ cdAt A B x) : p.1 = x ∧ p.2.2 = 1 ∧ p.2.1 * p.2.1 = cvV A B x 1 ∧ (p.2.1 = 0 ∨ (disc A B).tmod (p.2.1 * p.2.1) = 0) := by
  unfold cdAt at h
  split at h
  · rename_i hs
    have hq : rtI (cvV A B x 1) * rtI (cvV A B x 1) = cvV A B x 1 := eq_of_beq hs
    split at h
    · rename_i h0
      simp only [List.mem_singleton] at h
      subst h
      refine ⟨rfl, rfl, ?_, .inl rfl⟩
      rw [h0] at hq
      exact hq
    · split at h
      · rename_i hd
        simp only [List.mem_cons, List.not_mem_nil, or_false] at h
        rcases h with rfl | rfl
        · refine ⟨rfl, rfl, ?_, .inr ?_⟩
          · show -_ * -_ = _
            rw [Int.neg_mul_neg]; exact hq
          · show (disc A B).tmod (-_ * -_) = 0
            rw [Int.neg_mul_neg]; exact hd
        · exact ⟨rfl, rfl, hq, .inr hd⟩
      · simp at h
  · simp at h
theorem cdF_mem {A B : Int} {p : Int × Int × Int} : ∀ (f : Nat) (x : Int), p ∈ cdF A B f x → (x ≤ p.1 ∧ p.1 < x + f) ∧ p.2.2 = 1 ∧ p.2.1 * p.2.1 = cvV A B p.1 1 ∧ (p.2.1 = 0 ∨ (disc A B).tmod (p.2.1 * p.2.1) = 0)
  | 0, x, h => by simp [cdF] at h
  | f + 1, x, h => by
    unfold cdF at h
    rcases List.mem_append.1 h with h | h
    · obtain ⟨h1, h2, h3, h4⟩ := cdAt_mem h
      exact ⟨by omega, h2, h1 ▸ h3, h4⟩
    · obtain ⟨h1, h2⟩ := cdF_mem f (x + 1) h
      exact ⟨by omega, h2⟩
/-- a candidate is a point -/
theorem cd_fin {A B : Int} (hA : -1000 ≤ A ∧ A ≤ 1000) (hB : -10000 ≤ B ∧ B ≤ 10000) {p : Int × Int × Int} (h : p ∈ cdL A B) : FinP A B p.1 p.2.1 p.2.2 := by
  obtain ⟨h1, h2, h3, _⟩ := cdF_mem _ _ h
  have hx : -10000 ≤ p.1 ∧ p.1 ≤ 10000 := by omega
  have hv := cv_lt hA hB hx (e := 1) (by omega)
  refine ⟨hx, by omega, ?_, ?_, by rw [h2]; exact h3⟩
  · rw [h2]; unfold gcdI; simp
  · constructor
    · rcases Int.lt_or_le p.2.1 (-3000000) with hh | hh
      · have := Int.mul_le_mul (show 3000000 ≤ -p.2.1 by omega) (show 3000000 ≤ -p.2.1 by omega) (by omega) (by omega)
        rw [Int.neg_mul_neg] at this; omega
      · exact hh
    · rcases Int.lt_or_le 3000000 p.2.1 with hh | hh
      · have := Int.mul_le_mul (show 3000000 ≤ p.2.1 by omega) (show 3000000 ≤ p.2.1 by omega) (by omega) (by omega)
        omega
      · exact hh
theorem to_mem {A B : Int} {p : Int × Int × Int} (h : p ∈ toL A B) : p = (0, 0, 0) ∨ (p ∈ cdL A B ∧ (odV A B p).isSome = true) := by
  unfold toL at h
  rcases List.mem_cons.1 h with h | h
  · exact .inl h
  · obtain ⟨h1, h2⟩ := List.mem_filter.1 h
    exact .inr ⟨h1, h2⟩
end Go.Proofs.YtbcjlhbpgcjddaaGreatDoor

/- FrP -/
namespace Go.Proofs.YtbcjlhbpgcjddaaGreatDoor
open Go.RowKit

/-! the greater form has no more representations -/
theorem sumF_le {f g : Int → Int} (h : ∀ x, f x ≤ g x) : ∀ k, sumF f k ≤ sumF g k
  | 0 => Int.le_refl _
  | k + 1 => by
    have h1 := sumF_le h k
    have h2 := h ((k : Int) - 6)
    unfold sumF
    omega
theorem sq_nn (x : Int) : 0 ≤ x * x := by
  rcases Int.le_total 0 x with h | h
  · exact Int.mul_nonneg h h
  · have := Int.mul_nonneg (show 0 ≤ -x by omega) (show 0 ≤ -x by omega)
    rwa [Int.neg_mul_neg] at this
theorem hit_le {a n : Int} (ha : 0 ≤ a) (hn : n ≤ 31) (x y z : Int) : hitF a 32 n x y z ≤ hitF a 8 n x y z := by
  have h1 := hitF_bd a 8 n x y z
  unfold hitF at *
  split
  · rename_i h
    have hz : z = 0 := by
      have e1 : a * x * x = a * (x * x) := Int.mul_assoc _ _ _
      have e2 : 32 * z * z = 32 * (z * z) := Int.mul_assoc _ _ _
      have p1 := Int.mul_nonneg ha (sq_nn x)
      have p2 := sq_nn y
      have p3 := sq_nn z
      have p4 : z * z = 0 := by omega
      rcases Int.mul_eq_zero.1 p4 with h | h <;> exact h
    subst hz
    rw [if_pos (by simpa using h)]
    exact Int.le_refl _
  · split <;> omega
theorem form_le {a n : Int} (ha : 0 ≤ a) (hn : n ≤ 31) : formV a 32 n ≤ formV a 8 n :=
  sumF_le (fun x => sumF_le (fun y => sumF_le (hit_le ha hn x y) 13) 13) 13
theorem fc_le {n : Int} (hn : n ≤ 31) : fcB n ≤ fcA n := by
  unfold fcA fcB
  split
  · exact form_le (by omega) hn
  · exact form_le (by omega) (by omega)
/-! first triangles, by reckoning -/
def force {α : Type} (n : Nat) (f : Nat → α) : α := match n with | 0 => f 0 | k + 1 => f (k + 1)
theorem force_eq {α : Type} (n : Nat) (f : Nat → α) : force n f = f n := by cases n <;> rfl
def bsN (q : Nat) : Nat → Nat → Nat → Nat
  | 0, lo, _ => lo
  | f + 1, lo, hi => force ((lo + hi) / 2) fun m => match Nat.ble (m * m) q with | true => bsN q f m hi | false => bsN q f lo m
def nsqAt (q s : Nat) : Bool := Nat.ble (s * s) q && Nat.blt q ((s + 1) * (s + 1)) && !(Nat.beq (s * s) q)
def nsq (q : Nat) : Bool := force (bsN q 13 0 8192) fun s => nsqAt q s
def rowK (k u : Nat) : Nat → Bool
  | 0 => true
  | v + 1 => (force (u * (v + 1) * (u * u - (v + 1) * (v + 1))) fun a => match Nat.beq (a % k) 0 with | true => force (a / k) nsq | false => true) && rowK k u v
def allK (k : Nat) : Nat → Bool
  | 0 => true
  | u + 1 => rowK k (u + 1) u && allK k u
theorem nsq_no {q : Nat} (h : nsq q = true) (r : Nat) : r * r ≠ q := by
  unfold nsq at h
  rw [force_eq] at h
  generalize bsN q 13 0 8192 = s at h
  unfold nsqAt at h
  simp only [Bool.and_eq_true, Bool.not_eq_true', Nat.blt_eq, Nat.ble_eq] at h
  obtain ⟨⟨h1, h2⟩, h3⟩ := h
  have h4 : s * s ≠ q := fun e => by rw [e] at h3; simp at h3
  intro e
  rcases Nat.lt_or_ge s r with hh | hh
  · have := Nat.mul_le_mul (show s + 1 ≤ r from hh) (show s + 1 ≤ r from hh); omega
  · have := Nat.mul_le_mul hh hh; omega
theorem sqB_no {q : Nat} (h : nsq q = true) : sqB (q : Int) = false := by
  unfold sqB rtI
  have := nsq_no h (rt q)
  simp only [Int.toNat_natCast, beq_eq_false_iff_ne, ne_eq]
  intro e
  exact this (by exact_mod_cast e)
theorem arA_nat {u v : Nat} (h : v ≤ u) : arA u v = ((u * v * (u * u - v * v) : Nat) : Int) := by
  have := Nat.mul_le_mul h h
  unfold arA
  rw [Int.natCast_mul, Int.natCast_mul, Int.natCast_sub this, Int.natCast_mul, Int.natCast_mul]
theorem rowK_spec {k u : Nat} : ∀ m, m ≤ u → rowK k u m = true → ∀ v, 1 ≤ v → v ≤ m → scB k u v = false
  | 0, _, _, v, h1, h2 => by omega
  | m + 1, hm, h, v, h1, h2 => by
    unfold rowK at h
    rw [force_eq, Bool.and_eq_true] at h
    by_cases hv : v ≤ m
    · exact rowK_spec m (by omega) h.2 v h1 hv
    · obtain rfl : v = m + 1 := by omega
      have h3 := h.1
      unfold scB
      rw [arA_nat hm]
      generalize u * (m + 1) * (u * u - (m + 1) * (m + 1)) = a at h3
      have e1 : ((a : Int) % (k : Int)) = ((a % k : Nat) : Int) := by simp
      have e2 : ((a : Int) / (k : Int)) = ((a / k : Nat) : Int) := by simp
      rw [e1, e2]
      split at h3
      · rw [force_eq] at h3
        rw [sqB_no h3, Bool.and_false]
      · rename_i hb
        have : ((((a % k : Nat) : Int)) == 0) = false := by
          have h5 : a % k ≠ 0 := Nat.ne_of_beq_eq_false hb
          simp only [beq_eq_false_iff_ne, ne_eq]
          omega
        rw [this, Bool.false_and]
theorem allK_spec {k : Nat} : ∀ m, allK k m = true → ∀ u v, 1 ≤ v → v < u → u ≤ m → scB k u v = false
  | 0, _, u, v, h1, h2, h3 => by omega
  | m + 1, h, u, v, h1, h2, h3 => by
    unfold allK at h
    rw [Bool.and_eq_true] at h
    by_cases hu : u ≤ m
    · exact allK_spec m h.2 u v h1 h2 hu
    · obtain rfl : u = m + 1 := by omega
      exact rowK_spec m (by omega) h.1 v h1 (by omega)
theorem scB_int {k : Nat} {u v : Int} (h1 : 1 ≤ v) (h2 : v < u) (h : scB k u.toNat v.toNat = false) : scB k u v = false := by
  rwa [show ((u.toNat : Nat) : Int) = u by omega, show ((v.toNat : Nat) : Int) = v by omega] at h
theorem ft_none {k : Nat} (h : allK k 100 = true) {m : Int} (hm : m ≤ 100) : ftB k m = false := by
  have he : ¬ ∃ p, Fst k m p := fun ⟨p, ⟨h1, h2, h3⟩, h4, _⟩ => by
    have := scB_int h1 h2 (allK_spec 100 h p.1.toNat p.2.toNat (by omega) (by omega) (by omega))
    rw [this] at h4; cases h4
  unfold ftB
  simpa using he
theorem ft_at {k U V : Nat} (h : (allK k (U - 1) && rowK k U (V - 1)) = true) (hs : scB k U V = true) (h1 : 1 ≤ V) (h2 : V < U) {m : Int} (hf : ftB k m = true) : ftV k m = scT k U V := by
  rw [Bool.and_eq_true] at h
  have hn : NoS k U V := fun u v g1 g2 g3 => by
    rcases g3 with g3 | ⟨g3, g4⟩
    · exact scB_int g1 g2 (allK_spec _ h.1 u.toNat v.toNat (by omega) (by omega) (by omega))
    · subst g3
      have := rowK_spec _ (by omega) h.2 v.toNat (by omega) (by omega)
      rwa [show ((v.toNat : Nat) : Int) = v by omega] at this
  have he : ∃ p, Fst k m p := by unfold ftB at hf; simpa using hf
  obtain ⟨p, hp⟩ := he
  have hu : p = ((U : Int), (V : Int)) := by
    obtain ⟨⟨g1, g2, g3⟩, g4, g5⟩ := id hp
    by_cases a : p.1 < U ∨ (p.1 = U ∧ p.2 < V)
    · have := hn p.1 p.2 g1 g2 a; rw [this] at g4; cases g4
    · by_cases b : (U : Int) < p.1 ∨ ((U : Int) = p.1 ∧ (V : Int) < p.2)
      · have := g5 U V (by omega) (by omega) b; rw [this] at hs; cases hs
      · obtain ⟨p1, p2⟩ := p
        simp only at a b
        rw [show p1 = U by omega, show p2 = V by omega]
  subst hu
  exact (ft_yes hp).2
theorem rt_sq {q r : Int} (h0 : 0 ≤ r) (h : r * r = q) : rtI q = r := by
  have h1 : (r + 1) * (r + 1) = r * r + 2 * r + 1 := by grind
  exact (rtI_uniq h0 (by omega) (by omega)).symm
theorem sq_yes {q r : Int} (h0 : 0 ≤ r) (h : r * r = q) : sqB q = true := by
  unfold sqB
  rw [rt_sq h0 h, h]
  simp
/-! the point of a triangle, by its values -/
theorem pot_val (n p q r s t u S1 S2 C1 C2 A5 B5 L1 L2 Z1 Z2 A6 B6 e : Int) (hv : vlB n p q r s t u = true) (hn : 1 ≤ n ∧ n ≤ 31) (fA : frOk p q = true) (fB : frOk r s = true) (fC : frOk t u = true)
    (m1 : (mOk (p * u + t * q) (q * u) && mkN (p * u + t * q) (q * u) == S1 && mkD (p * u + t * q) (q * u) == S2) = true)
    (m3 : (mOk (n * S1) (1 * S2) && mkN (n * S1) (1 * S2) == C1 && mkD (n * S1) (1 * S2) == C2) = true)
    (m5 : (mOk (C1 * s) (C2 * r) && mkN (C1 * s) (C2 * r) == A5 && mkD (C1 * s) (C2 * r) == B5) = true)
    (m4 : (mOk (2 * n * n * S1) (1 * S2) && mkN (2 * n * n * S1) (1 * S2) == L1 && mkD (2 * n * n * S1) (1 * S2) == L2) = true)
    (m2 : (mOk (r * r) (s * s) && mkN (r * r) (s * s) == Z1 && mkD (r * r) (s * s) == Z2) = true)
    (m6 : (mOk (L1 * Z2) (L2 * Z1) && mkN (L1 * Z2) (L2 * Z1) == A6 && mkD (L1 * Z2) (L2 * Z1) == B6) = true)
    (he : 0 ≤ e ∧ e ≤ 20) (hb : e * e = B5) (hb6 : B6 = e * e * e) (hpt : ptF (-n * n) 0 A5 A6 e = true) (w : World) :
    Calls Tryz.prog 17 #[.int .i64 n, .agg #[.int .i64 p, .int .i64 q, .int .i64 r, .int .i64 s, .int .i64 t, .int .i64 u]] w (potP w A5 A6 e true) := by
  have hnn : 1 ≤ n * n ∧ n * n ≤ 961 := ⟨by have := Int.mul_le_mul hn.1 hn.1 (by omega) (by omega); omega, by have := Int.mul_le_mul hn.2 hn.2 (by omega) (by omega); omega⟩
  have hm : 2 * n * n = 2 * (n * n) := Int.mul_assoc 2 n n
  simp only [Bool.and_eq_true, beq_iff_eq] at m1 m2 m3 m4 m5 m6
  obtain ⟨t1, t2, o1, k1, g1, e1, q1⟩ := ks_plus p q t u true fA fC
  rw [m1.1.1] at e1
  obtain rfl : o1 = true := e1
  obtain ⟨rfl, rfl⟩ : t1 = S1 ∧ t2 = S2 := ⟨(q1 rfl).1.trans m1.1.2, (q1 rfl).2.trans m1.2⟩
  obtain ⟨w1, w2, kw, gw, ew⟩ := ks_whole n true (by omega)
  obtain ⟨rfl, rfl⟩ := ew rfl
  obtain ⟨c1, c2, o3, k3, g3, e3, q3⟩ := ks_times w1 1 t1 t2 true gw g1
  rw [m3.1.1] at e3
  obtain rfl : o3 = true := e3
  obtain ⟨rfl, rfl⟩ : c1 = C1 ∧ c2 = C2 := ⟨(q3 rfl).1.trans m3.1.2, (q3 rfl).2.trans m3.2⟩
  obtain ⟨a5, b5, o5, k5, g5, e5, q5⟩ := ks_over c1 c2 r s true g3 fB
  rw [m5.1.1] at e5
  obtain rfl : o5 = true := e5
  obtain ⟨rfl, rfl⟩ : a5 = A5 ∧ b5 = B5 := ⟨(q5 rfl).1.trans m5.1.2, (q5 rfl).2.trans m5.2⟩
  obtain ⟨d1, d2, kd, gd, ed⟩ := ks_whole (2 * w1 * w1) true (by omega)
  obtain ⟨rfl, rfl⟩ := ed rfl
  obtain ⟨l1, l2, o4, k4, g4, e4, q4⟩ := ks_times (2 * w1 * w1) 1 t1 t2 true gd g1
  rw [m4.1.1] at e4
  obtain rfl : o4 = true := e4
  obtain ⟨rfl, rfl⟩ : l1 = L1 ∧ l2 = L2 := ⟨(q4 rfl).1.trans m4.1.2, (q4 rfl).2.trans m4.2⟩
  obtain ⟨z1, z2, o2, k2, g2, e2, q2⟩ := ks_times r s r s true fB fB
  rw [m2.1.1] at e2
  obtain rfl : o2 = true := e2
  obtain ⟨rfl, rfl⟩ : z1 = Z1 ∧ z2 = Z2 := ⟨(q2 rfl).1.trans m2.1.2, (q2 rfl).2.trans m2.2⟩
  obtain ⟨a6, b6, o6, k6, g6, e6, q6⟩ := ks_over l1 l2 z1 z2 true g4 g2
  rw [m6.1.1] at e6
  obtain rfl : o6 = true := e6
  obtain ⟨rfl, rfl⟩ : a6 = A6 ∧ b6 = B6 := ⟨(q6 rfl).1.trans m6.1.2, (q6 rfl).2.trans m6.2⟩
  have hB5 := (frOk_of g5).1
  have hr := rt_sq he.1 hb
  have hq := sq_yes he.1 hb
  have hI := c_iPotMain w1 p q r s t u t1 t2 w1 1 c1 c2 a5 b5 (2 * w1 * w1) 1 l1 l2 z1 z2 a6 b6 e true true true true true true true true true hv
    (by omega) (Lib.hid k1) (Lib.hid kw) (Lib.hid k3) (Lib.hid k5) (Lib.hid kd) (Lib.hid k4) (Lib.hid k2) (Lib.hid k6) (Lib.hid fun w => by have h := c_exactRoot b5 (by omega) w; rw [hq, hr] at h; exact h) w
  have hg : (true && true && decide (e ≤ 20) && (b6 == e * e * e) && ptF (-w1 * w1) 0 a5 a6 e) = true := by rw [hpt, hb6]; simp; omega
  rw [hg] at hI
  exact hI
/-! the sums of a point, by reckoning -/
def noF (T D : Int) : Nat → Int → Bool
  | 0, _ => true
  | f + 1, e => !(sqOk (T * (e * e)) D && gcdI (sqV (T * (e * e)) D) e == 1) && noF T D f (e + 1)
theorem adF_no {A B X1 Y1 E1 n m T D : Int} : ∀ (f : Nat) (e : Int), noF T D f e = true → adF A B X1 Y1 E1 n m T D f e = none
  | 0, e, _ => rfl
  | f + 1, e, h => by
    unfold noF at h
    rw [Bool.and_eq_true] at h
    unfold adF
    rw [if_neg (fun k => by rw [k.1, k.2.1] at h; simp at h)]
    exact adF_no f (e + 1) h.2
theorem adF_skip {A B X1 Y1 E1 n m T D : Int} : ∀ (g f : Nat) (e : Int), noF T D g e = true → adF A B X1 Y1 E1 n m T D (g + f) e = adF A B X1 Y1 E1 n m T D f (e + g)
  | 0, f, e, _ => by rw [Nat.zero_add]; simp
  | g + 1, f, e, h => by
    unfold noF at h
    rw [Bool.and_eq_true] at h
    rw [show g + 1 + f = (g + f) + 1 by omega]
    conv => lhs; unfold adF
    rw [if_neg (fun k => by rw [k.1, k.2.1] at h; simp at h)]
    rw [adF_skip g f (e + 1) h.2]
    congr 1
    omega
theorem adF_hit {A B X1 Y1 E1 n m T D e x y : Int} {f : Nat} (h : (sqOk (T * (e * e)) D && sqV (T * (e * e)) D == x && gcdI x e == 1) = true) (hy : 0 ≤ y) (hs : y * y = cvV A B x e) :
    adF A B X1 Y1 E1 n m T D (f + 1) e = some (x, (if decide (n * (X1 * e * e - x * E1 * E1) * E1 - Y1 * m * e * e < 0) = decide (m < 0) then y else -y), e) := by
  simp only [Bool.and_eq_true, beq_iff_eq] at h
  obtain ⟨⟨h1, h2⟩, h3⟩ := h
  unfold adF
  rw [h2, if_pos ⟨h1, h3, sq_yes hy hs⟩, rt_sq hy hs]
theorem od_none {A B : Int} {p r : Int × Int × Int} (h1 : p.2.2 ≠ 0) (h2 : adP A B p p = some r) (h3 : r.2.2 ≠ 0) (h4 : adP A B r p = none) : odV A B p = none := by
  have h0 : adP A B (0, 0, 0) p = some p := by unfold adP; simp
  unfold odV odF
  rw [h0]
  simp only [if_neg h1]
  unfold odF
  rw [h2]
  simp only [if_neg h3]
  unfold odF
  rw [h4]
theorem not_to {A B X Y E : Int} (h0 : (X, Y, E) ≠ (0, 0, 0)) (h : E ≠ 1 ∨ (Y ≠ 0 ∧ (disc A B).tmod (Y * Y) ≠ 0) ∨ odV A B (X, Y, E) = none) : (X, Y, E) ∉ toL A B := fun k => by
  rcases to_mem k with k | ⟨k1, k2⟩
  · exact h0 k
  · obtain ⟨_, c1, _, c2⟩ := cdF_mem _ _ k1
    rcases h with h | ⟨h, h'⟩ | h
    · exact h c1
    · exact c2.elim h h'
    · rw [h] at k2; cases k2
end Go.Proofs.YtbcjlhbpgcjddaaGreatDoor

/- FrQ -/
namespace Go.Proofs.YtbcjlhbpgcjddaaGreatDoor
open Go.RowKit

/-- what is known of the first triangle and of its point -/
def TriFacts (k m : Int) : Prop := ∃ p q r s t u a b c : Int, ftV k m = .agg #[.int .i64 p, .int .i64 q, .int .i64 r, .int .i64 s, .int .i64 t, .int .i64 u] ∧ (frOk p q = true ∧ frOk r s = true ∧ frOk t u = true) ∧ vlB k p q r s t u = true ∧ mayB k = true ∧ ptF (-k * k) 0 a b c = true ∧ (a, b, c) ∉ toL (-k * k) 0 ∧
  ∀ w : World, Calls Tryz.prog 17 #[.int .i64 k, .agg #[.int .i64 p, .int .i64 q, .int .i64 r, .int .i64 s, .int .i64 t, .int .i64 u]] w (potP w a b c true)
theorem vl_of {k p q r s t u : Int} (h : areaB k = true) (h2 : (triOk p q r s t u && tOk p q r s t u && tIs k p q r s t u) = true) : vlB k p q r s t u = true := by
  unfold vlB itOk
  rw [h, Bool.true_and]
  exact h2
theorem may_5 : mayB 5 = true := by decide +kernel
theorem tab_5 {m : Int} (ha : areaB 5 = true) (hf : ftB 5 m = true) : TriFacts 5 m := by
  have hv : vlB 5 3 2 20 3 41 6 = true := vl_of ha (by kernel_rfl)
  have hp : ptF (-5 * 5) 0 25 75 2 = true := by kernel_rfl
  have h1 : ftV (5 : Nat) m = scT (5 : Nat) (5 : Nat) (4 : Nat) := ft_at (k := 5) (U := 5) (V := 4) (by kernel_rfl) (by show ((_ : Bool) && sqB _) = true; rw [sq_yes (q := arA (5 : Nat) (4 : Nat) / (5 : Nat)) (r := 6) (by omega) (by kernel_rfl)]; kernel_rfl) (by omega) (by omega) hf
  have hr : rtI (arA (5 : Nat) (4 : Nat) / (5 : Nat)) = 6 := rt_sq (by omega) (by kernel_rfl)
  refine ⟨3, 2, 20, 3, 41, 6, 25, 75, 2, h1.trans ?_, ⟨by kernel_rfl, by kernel_rfl, by kernel_rfl⟩, hv, may_5, hp, not_to (by decide) (.inl (by decide)), fun w => pot_val 5 3 2 20 3 41 6 25 3 125 3 25 4 1250 3 400 9 75 8 2 hv (by omega) (by kernel_rfl) (by kernel_rfl) (by kernel_rfl) (by kernel_rfl) (by kernel_rfl) (by kernel_rfl) (by kernel_rfl) (by kernel_rfl) (by kernel_rfl) (by omega) (by kernel_rfl) (by kernel_rfl) hp w⟩
  unfold scT
  rw [hr]
  kernel_rfl
theorem may_6 : mayB 6 = true := by decide +kernel
theorem dbl_6 : adP (-6 * 6) 0 (12, 36, 1) (12, 36, 1) = some (25, -35, 2) := by
  unfold adP
  rw [if_neg (by decide), if_neg (by decide), if_neg (by decide)]
  unfold adS
  rw [show adN (-6 * 6) 12 36 1 12 36 1 = 11 by kernel_rfl, show adM (-6 * 6) 12 36 1 12 36 1 = 2 by kernel_rfl]
  have h := adF_skip (A := -6 * 6) (B := 0) (X1 := 12) (Y1 := 36) (E1 := 1) (n := 11) (m := 2) (T := adT 11 2 12 1 12 1) (D := adB 2 1 1) 1 19 1 (by kernel_rfl)
  have h2 := adF_hit (A := -6 * 6) (B := 0) (X1 := 12) (Y1 := 36) (E1 := 1) (n := 11) (m := 2) (T := adT 11 2 12 1 12 1) (D := adB 2 1 1) (e := 2) (x := 25) (y := 35) (f := 18) (by kernel_rfl) (by omega) (by kernel_rfl)
  exact h.trans (h2.trans (by kernel_rfl))
theorem tpl_6 : adP (-6 * 6) 0 (25, -35, 2) (12, 36, 1) = none := by
  unfold adP
  rw [if_neg (by decide), if_neg (by decide), if_neg (by decide)]
  exact adF_no _ _ (by kernel_rfl)
theorem tab_6 {m : Int} (ha : areaB 6 = true) (hf : ftB 6 m = true) : TriFacts 6 m := by
  have hv : vlB 6 3 1 4 1 5 1 = true := vl_of ha (by kernel_rfl)
  have hp : ptF (-6 * 6) 0 12 36 1 = true := by kernel_rfl
  have h1 : ftV (6 : Nat) m = scT (6 : Nat) (2 : Nat) (1 : Nat) := ft_at (k := 6) (U := 2) (V := 1) (by kernel_rfl) (by show ((_ : Bool) && sqB _) = true; rw [sq_yes (q := arA (2 : Nat) (1 : Nat) / (6 : Nat)) (r := 1) (by omega) (by kernel_rfl)]; kernel_rfl) (by omega) (by omega) hf
  have hr : rtI (arA (2 : Nat) (1 : Nat) / (6 : Nat)) = 1 := rt_sq (by omega) (by kernel_rfl)
  refine ⟨3, 1, 4, 1, 5, 1, 12, 36, 1, h1.trans ?_, ⟨by kernel_rfl, by kernel_rfl, by kernel_rfl⟩, hv, may_6, hp, not_to (by decide) (.inr (.inr (od_none (by decide) dbl_6 (by decide) tpl_6))), fun w => pot_val 6 3 1 4 1 5 1 8 1 48 1 12 1 576 1 16 1 36 1 1 hv (by omega) (by kernel_rfl) (by kernel_rfl) (by kernel_rfl) (by kernel_rfl) (by kernel_rfl) (by kernel_rfl) (by kernel_rfl) (by kernel_rfl) (by kernel_rfl) (by omega) (by kernel_rfl) (by kernel_rfl) hp w⟩
  unfold scT
  rw [hr]
  kernel_rfl
theorem may_7 : mayB 7 = true := by decide +kernel
theorem tab_7 {m : Int} (ha : areaB 7 = true) (hf : ftB 7 m = true) : TriFacts 7 m := by
  have hv : vlB 7 35 12 24 5 337 60 = true := vl_of ha (by kernel_rfl)
  have hp : ptF (-7 * 7) 0 112 980 3 = true := by kernel_rfl
  have h1 : ftV (7 : Nat) m = scT (7 : Nat) (16 : Nat) (9 : Nat) := ft_at (k := 7) (U := 16) (V := 9) (by kernel_rfl) (by show ((_ : Bool) && sqB _) = true; rw [sq_yes (q := arA (16 : Nat) (9 : Nat) / (7 : Nat)) (r := 60) (by omega) (by kernel_rfl)]; kernel_rfl) (by omega) (by omega) hf
  have hr : rtI (arA (16 : Nat) (9 : Nat) / (7 : Nat)) = 60 := rt_sq (by omega) (by kernel_rfl)
  refine ⟨35, 12, 24, 5, 337, 60, 112, 980, 3, h1.trans ?_, ⟨by kernel_rfl, by kernel_rfl, by kernel_rfl⟩, hv, may_7, hp, not_to (by decide) (.inl (by decide)), fun w => pot_val 7 35 12 24 5 337 60 128 15 896 15 112 9 12544 15 576 25 980 27 3 hv (by omega) (by kernel_rfl) (by kernel_rfl) (by kernel_rfl) (by kernel_rfl) (by kernel_rfl) (by kernel_rfl) (by kernel_rfl) (by kernel_rfl) (by kernel_rfl) (by omega) (by kernel_rfl) (by kernel_rfl) hp w⟩
  unfold scT
  rw [hr]
  kernel_rfl
theorem may_14 : mayB 14 = true := by decide +kernel
theorem tab_14 {m : Int} (ha : areaB 14 = true) (hf : ftB 14 m = true) : TriFacts 14 m := by
  have hv : vlB 14 8 3 21 2 65 6 = true := vl_of ha (by kernel_rfl)
  have hp : ptF (-14 * 14) 0 18 48 1 = true := by kernel_rfl
  have h1 : ftV (14 : Nat) m = scT (14 : Nat) (8 : Nat) (1 : Nat) := ft_at (k := 14) (U := 8) (V := 1) (by kernel_rfl) (by show ((_ : Bool) && sqB _) = true; rw [sq_yes (q := arA (8 : Nat) (1 : Nat) / (14 : Nat)) (r := 6) (by omega) (by kernel_rfl)]; kernel_rfl) (by omega) (by omega) hf
  have hr : rtI (arA (8 : Nat) (1 : Nat) / (14 : Nat)) = 6 := rt_sq (by omega) (by kernel_rfl)
  refine ⟨8, 3, 21, 2, 65, 6, 18, 48, 1, h1.trans ?_, ⟨by kernel_rfl, by kernel_rfl, by kernel_rfl⟩, hv, may_14, hp, not_to (by decide) (.inr (.inl ⟨by decide, by decide +kernel⟩)), fun w => pot_val 14 8 3 21 2 65 6 27 2 189 1 18 1 5292 1 441 4 48 1 1 hv (by omega) (by kernel_rfl) (by kernel_rfl) (by kernel_rfl) (by kernel_rfl) (by kernel_rfl) (by kernel_rfl) (by kernel_rfl) (by kernel_rfl) (by kernel_rfl) (by omega) (by kernel_rfl) (by kernel_rfl) hp w⟩
  unfold scT
  rw [hr]
  kernel_rfl
theorem may_15 : mayB 15 = true := by decide +kernel
theorem tab_15 {m : Int} (ha : areaB 15 = true) (hf : ftB 15 m = true) : TriFacts 15 m := by
  have hv : vlB 15 4 1 15 2 17 2 = true := vl_of ha (by kernel_rfl)
  have hp : ptF (-15 * 15) 0 25 100 1 = true := by kernel_rfl
  have h1 : ftV (15 : Nat) m = scT (15 : Nat) (4 : Nat) (1 : Nat) := ft_at (k := 15) (U := 4) (V := 1) (by kernel_rfl) (by show ((_ : Bool) && sqB _) = true; rw [sq_yes (q := arA (4 : Nat) (1 : Nat) / (15 : Nat)) (r := 2) (by omega) (by kernel_rfl)]; kernel_rfl) (by omega) (by omega) hf
  have hr : rtI (arA (4 : Nat) (1 : Nat) / (15 : Nat)) = 2 := rt_sq (by omega) (by kernel_rfl)
  refine ⟨4, 1, 15, 2, 17, 2, 25, 100, 1, h1.trans ?_, ⟨by kernel_rfl, by kernel_rfl, by kernel_rfl⟩, hv, may_15, hp, not_to (by decide) (.inr (.inl ⟨by decide, by decide +kernel⟩)), fun w => pot_val 15 4 1 15 2 17 2 25 2 375 2 25 1 5625 1 225 4 100 1 1 hv (by omega) (by kernel_rfl) (by kernel_rfl) (by kernel_rfl) (by kernel_rfl) (by kernel_rfl) (by kernel_rfl) (by kernel_rfl) (by kernel_rfl) (by kernel_rfl) (by omega) (by kernel_rfl) (by kernel_rfl) hp w⟩
  unfold scT
  rw [hr]
  kernel_rfl
theorem may_21 : mayB 21 = true := by decide +kernel
theorem dbl_21 : adP (-21 * 21) 0 (28, 98, 1) (28, 98, 1) = some (625, -13175, 4) := by
  unfold adP
  rw [if_neg (by decide), if_neg (by decide), if_neg (by decide)]
  unfold adS
  rw [show adN (-21 * 21) 28 98 1 28 98 1 = 39 by kernel_rfl, show adM (-21 * 21) 28 98 1 28 98 1 = 4 by kernel_rfl]
  have h := adF_skip (A := -21 * 21) (B := 0) (X1 := 28) (Y1 := 98) (E1 := 1) (n := 39) (m := 4) (T := adT 39 4 28 1 28 1) (D := adB 4 1 1) 3 17 1 (by kernel_rfl)
  have h2 := adF_hit (A := -21 * 21) (B := 0) (X1 := 28) (Y1 := 98) (E1 := 1) (n := 39) (m := 4) (T := adT 39 4 28 1 28 1) (D := adB 4 1 1) (e := 4) (x := 625) (y := 13175) (f := 16) (by kernel_rfl) (by omega) (by kernel_rfl)
  exact h.trans (h2.trans (by kernel_rfl))
theorem tpl_21 : adP (-21 * 21) 0 (625, -13175, 4) (28, 98, 1) = none := by
  unfold adP
  rw [if_neg (by decide), if_neg (by decide), if_neg (by decide)]
  exact adF_no _ _ (by kernel_rfl)
theorem tab_21 {m : Int} (ha : areaB 21 = true) (hf : ftB 21 m = true) : TriFacts 21 m := by
  have hv : vlB 21 7 2 12 1 25 2 = true := vl_of ha (by kernel_rfl)
  have hp : ptF (-21 * 21) 0 28 98 1 = true := by kernel_rfl
  have h1 : ftV (21 : Nat) m = scT (21 : Nat) (4 : Nat) (3 : Nat) := ft_at (k := 21) (U := 4) (V := 3) (by kernel_rfl) (by show ((_ : Bool) && sqB _) = true; rw [sq_yes (q := arA (4 : Nat) (3 : Nat) / (21 : Nat)) (r := 2) (by omega) (by kernel_rfl)]; kernel_rfl) (by omega) (by omega) hf
  have hr : rtI (arA (4 : Nat) (3 : Nat) / (21 : Nat)) = 2 := rt_sq (by omega) (by kernel_rfl)
  refine ⟨7, 2, 12, 1, 25, 2, 28, 98, 1, h1.trans ?_, ⟨by kernel_rfl, by kernel_rfl, by kernel_rfl⟩, hv, may_21, hp, not_to (by decide) (.inr (.inr (od_none (by decide) dbl_21 (by decide) tpl_21))), fun w => pot_val 21 7 2 12 1 25 2 16 1 336 1 28 1 14112 1 144 1 98 1 1 hv (by omega) (by kernel_rfl) (by kernel_rfl) (by kernel_rfl) (by kernel_rfl) (by kernel_rfl) (by kernel_rfl) (by kernel_rfl) (by kernel_rfl) (by kernel_rfl) (by omega) (by kernel_rfl) (by kernel_rfl) hp w⟩
  unfold scT
  rw [hr]
  kernel_rfl
theorem may_22 : mayB 22 = true := by decide +kernel
theorem tab_22 {m : Int} (ha : areaB 22 = true) (hf : ftB 22 m = true) : TriFacts 22 m := by
  have hv : vlB 22 33 35 140 3 4901 105 = true := vl_of ha (by kernel_rfl)
  have hp : ptF (-22 * 22) 0 1100 7260 7 = true := by kernel_rfl
  have h1 : ftV (22 : Nat) m = scT (22 : Nat) (50 : Nat) (49 : Nat) := ft_at (k := 22) (U := 50) (V := 49) (by kernel_rfl) (by show ((_ : Bool) && sqB _) = true; rw [sq_yes (q := arA (50 : Nat) (49 : Nat) / (22 : Nat)) (r := 105) (by omega) (by kernel_rfl)]; kernel_rfl) (by omega) (by omega) hf
  have hr : rtI (arA (50 : Nat) (49 : Nat) / (22 : Nat)) = 105 := rt_sq (by omega) (by kernel_rfl)
  refine ⟨33, 35, 140, 3, 4901, 105, 1100, 7260, 7, h1.trans ?_, ⟨by kernel_rfl, by kernel_rfl, by kernel_rfl⟩, hv, may_22, hp, not_to (by decide) (.inl (by decide)), fun w => pot_val 22 33 35 140 3 4901 105 1000 21 22000 21 1100 49 968000 21 19600 9 7260 343 7 hv (by omega) (by kernel_rfl) (by kernel_rfl) (by kernel_rfl) (by kernel_rfl) (by kernel_rfl) (by kernel_rfl) (by kernel_rfl) (by kernel_rfl) (by kernel_rfl) (by omega) (by kernel_rfl) (by kernel_rfl) hp w⟩
  unfold scT
  rw [hr]
  kernel_rfl
theorem may_30 : mayB 30 = true := by decide +kernel
theorem dbl_30 : adP (-30 * 30) 0 (45, 225, 1) (45, 225, 1) = some (169, -1547, 2) := by
  unfold adP
  rw [if_neg (by decide), if_neg (by decide), if_neg (by decide)]
  unfold adS
  rw [show adN (-30 * 30) 45 225 1 45 225 1 = 23 by kernel_rfl, show adM (-30 * 30) 45 225 1 45 225 1 = 2 by kernel_rfl]
  have h := adF_skip (A := -30 * 30) (B := 0) (X1 := 45) (Y1 := 225) (E1 := 1) (n := 23) (m := 2) (T := adT 23 2 45 1 45 1) (D := adB 2 1 1) 1 19 1 (by kernel_rfl)
  have h2 := adF_hit (A := -30 * 30) (B := 0) (X1 := 45) (Y1 := 225) (E1 := 1) (n := 23) (m := 2) (T := adT 23 2 45 1 45 1) (D := adB 2 1 1) (e := 2) (x := 169) (y := 1547) (f := 18) (by kernel_rfl) (by omega) (by kernel_rfl)
  exact h.trans (h2.trans (by kernel_rfl))
theorem tpl_30 : adP (-30 * 30) 0 (169, -1547, 2) (45, 225, 1) = none := by
  unfold adP
  rw [if_neg (by decide), if_neg (by decide), if_neg (by decide)]
  exact adF_no _ _ (by kernel_rfl)
theorem tab_30 {m : Int} (ha : areaB 30 = true) (hf : ftB 30 m = true) : TriFacts 30 m := by
  have hv : vlB 30 5 1 12 1 13 1 = true := vl_of ha (by kernel_rfl)
  have hp : ptF (-30 * 30) 0 45 225 1 = true := by kernel_rfl
  have h1 : ftV (30 : Nat) m = scT (30 : Nat) (3 : Nat) (2 : Nat) := ft_at (k := 30) (U := 3) (V := 2) (by kernel_rfl) (by show ((_ : Bool) && sqB _) = true; rw [sq_yes (q := arA (3 : Nat) (2 : Nat) / (30 : Nat)) (r := 1) (by omega) (by kernel_rfl)]; kernel_rfl) (by omega) (by omega) hf
  have hr : rtI (arA (3 : Nat) (2 : Nat) / (30 : Nat)) = 1 := rt_sq (by omega) (by kernel_rfl)
  refine ⟨5, 1, 12, 1, 13, 1, 45, 225, 1, h1.trans ?_, ⟨by kernel_rfl, by kernel_rfl, by kernel_rfl⟩, hv, may_30, hp, not_to (by decide) (.inr (.inr (od_none (by decide) dbl_30 (by decide) tpl_30))), fun w => pot_val 30 5 1 12 1 13 1 18 1 540 1 45 1 32400 1 144 1 225 1 1 hv (by omega) (by kernel_rfl) (by kernel_rfl) (by kernel_rfl) (by kernel_rfl) (by kernel_rfl) (by kernel_rfl) (by kernel_rfl) (by kernel_rfl) (by kernel_rfl) (by omega) (by kernel_rfl) (by kernel_rfl) hp w⟩
  unfold scT
  rw [hr]
  kernel_rfl
theorem none_1 : allK 1 100 = true := by decide +kernel
theorem none_2 : allK 2 100 = true := by decide +kernel
theorem none_3 : allK 3 100 = true := by decide +kernel
theorem none_10 : allK 10 100 = true := by decide +kernel
theorem none_11 : allK 11 100 = true := by decide +kernel
theorem none_13 : allK 13 100 = true := by decide +kernel
theorem none_17 : allK 17 100 = true := by decide +kernel
theorem none_19 : allK 19 100 = true := by decide +kernel
theorem none_23 : allK 23 100 = true := by decide +kernel
theorem none_26 : allK 26 100 = true := by decide +kernel
theorem none_29 : allK 29 100 = true := by decide +kernel
theorem none_31 : allK 31 100 = true := by decide +kernel
theorem area_no {k : Int} (h : areaB k = true) (h2 : (inB k 1 31 && free4 k) = false) : False := by
  unfold areaB at h
  rw [Bool.and_eq_true] at h
  have h3 := inB_true h.1
  rw [free_small (by omega) (by omega)] at h
  rw [h.1, h.2] at h2
  cases h2
theorem tri_facts {k m : Int} (h : faB k m = true) (hf : ftB k m = true) : TriFacts k m := by
  obtain ⟨hk, hm⟩ := faB_of h
  have ha : areaB k = true := by unfold faB at h; rw [Bool.and_eq_true] at h; exact h.1
  rcases (by omega : k = 1 ∨ k = 2 ∨ k = 3 ∨ k = 4 ∨ k = 5 ∨ k = 6 ∨ k = 7 ∨ k = 8 ∨ k = 9 ∨ k = 10 ∨ k = 11 ∨ k = 12 ∨ k = 13 ∨ k = 14 ∨ k = 15 ∨ k = 16 ∨ k = 17 ∨ k = 18 ∨ k = 19 ∨ k = 20 ∨ k = 21 ∨ k = 22 ∨ k = 23 ∨ k = 24 ∨ k = 25 ∨ k = 26 ∨ k = 27 ∨ k = 28 ∨ k = 29 ∨ k = 30 ∨ k = 31) with rfl | rfl | rfl | rfl | rfl | rfl | rfl | rfl | rfl | rfl | rfl | rfl | rfl | rfl | rfl | rfl | rfl | rfl | rfl | rfl | rfl | rfl | rfl | rfl | rfl | rfl | rfl | rfl | rfl | rfl | rfl
  · rw [show ftB 1 m = false from ft_none (k := 1) none_1 hm.2] at hf; cases hf
  · rw [show ftB 2 m = false from ft_none (k := 2) none_2 hm.2] at hf; cases hf
  · rw [show ftB 3 m = false from ft_none (k := 3) none_3 hm.2] at hf; cases hf
  · exact (area_no ha (by kernel_rfl)).elim
  · exact tab_5 ha hf
  · exact tab_6 ha hf
  · exact tab_7 ha hf
  · exact (area_no ha (by kernel_rfl)).elim
  · exact (area_no ha (by kernel_rfl)).elim
  · rw [show ftB 10 m = false from ft_none (k := 10) none_10 hm.2] at hf; cases hf
  · rw [show ftB 11 m = false from ft_none (k := 11) none_11 hm.2] at hf; cases hf
  · exact (area_no ha (by kernel_rfl)).elim
  · rw [show ftB 13 m = false from ft_none (k := 13) none_13 hm.2] at hf; cases hf
  · exact tab_14 ha hf
  · exact tab_15 ha hf
  · exact (area_no ha (by kernel_rfl)).elim
  · rw [show ftB 17 m = false from ft_none (k := 17) none_17 hm.2] at hf; cases hf
  · exact (area_no ha (by kernel_rfl)).elim
  · rw [show ftB 19 m = false from ft_none (k := 19) none_19 hm.2] at hf; cases hf
  · exact (area_no ha (by kernel_rfl)).elim
  · exact tab_21 ha hf
  · exact tab_22 ha hf
  · rw [show ftB 23 m = false from ft_none (k := 23) none_23 hm.2] at hf; cases hf
  · exact (area_no ha (by kernel_rfl)).elim
  · exact (area_no ha (by kernel_rfl)).elim
  · rw [show ftB 26 m = false from ft_none (k := 26) none_26 hm.2] at hf; cases hf
  · exact (area_no ha (by kernel_rfl)).elim
  · exact (area_no ha (by kernel_rfl)).elim
  · rw [show ftB 29 m = false from ft_none (k := 29) none_29 hm.2] at hf; cases hf
  · exact tab_30 ha hf
  · rw [show ftB 31 m = false from ft_none (k := 31) none_31 hm.2] at hf; cases hf
end Go.Proofs.YtbcjlhbpgcjddaaGreatDoor

/- TpL -/
namespace Go.Proofs.YtbcjlhbpgcjddaaGreatDoor
open Go.RowKit

def cellsQ (L : List (Int × Int × Int)) : List Value := L.flatMap fun p => [.int .i64 p.1, .int .i64 p.2.1, .int .i64 p.2.2]
theorem cellsQ_append (L M : List (Int × Int × Int)) : cellsQ (L ++ M) = cellsQ L ++ cellsQ M := by simp [cellsQ]
theorem cellsQ_cons (L : List (Int × Int × Int)) (p : Int × Int × Int) : cellsQ (p :: L) = .int .i64 p.1 :: .int .i64 p.2.1 :: .int .i64 p.2.2 :: cellsQ L := by simp [cellsQ]
theorem cellsQ_length (L : List (Int × Int × Int)) : (cellsQ L).length = L.length * 3 := by
  induction L with
  | nil => rfl
  | cons p L ih => rw [cellsQ_cons]; simp [ih]; omega
theorem cellsQ_get (L : List (Int × Int × Int)) : ∀ i (h : i < L.length), (cellsQ L)[i * 3]? = some (.int .i64 L[i].1) ∧ (cellsQ L)[i * 3 + 1]? = some (.int .i64 L[i].2.1) ∧ (cellsQ L)[i * 3 + 2]? = some (.int .i64 L[i].2.2) := by
  induction L with
  | nil => intro i h; simp at h
  | cons p L ih =>
    intro i h
    rw [cellsQ_cons]
    cases i with
    | zero => simp
    | succ i =>
      have := ih i (by simpa using h)
      rw [show (i + 1) * 3 = i * 3 + 3 by omega]
      simpa using this
def OwnsQ (w : World) (base : Nat) (v : Value) (L : List (Int × Int × Int)) : Prop := w.ownsRow base 41 3 v L.length (cellsQ L)
theorem OwnsQ.nil (w : World) (base : Nat) : OwnsQ w base (.slice none 0 0) [] := World.ownsRow_nil _ _ _ _
theorem OwnsQ.below {w w1 : World} {base : Nat} {v : Value} {L : List (Int × Int × Int)} (h : OwnsQ w base v L) (hb : Below w.heap.size w w1) : OwnsQ w1 base v L := by
  refine ⟨h.1, ?_⟩
  rcases h.2 with h0 | ⟨g, cap, cur, hv, hg, hh, r⟩
  · exact .inl h0
  · exact .inr ⟨g, cap, cur, hv, hg, (hb.block g (Array.getElem?_eq_some_iff.1 hh).1).trans hh, r⟩
theorem OwnsQ.le {w : World} {base base' : Nat} {v : Value} {L : List (Int × Int × Int)} (h : OwnsQ w base v L) (hb : base' ≤ base) : OwnsQ w base' v L :=
  ⟨h.1, h.2.elim Or.inl (fun ⟨g, cap, cur, hv, hg, r⟩ => Or.inr ⟨g, cap, cur, hv, Nat.le_trans hb hg, r⟩)⟩
theorem OwnsQ.lt {w : World} {base : Nat} {v : Value} {L : List (Int × Int × Int)} (h : OwnsQ w base v L) : ∀ k, v.ownBlock = some k → base ≤ k ∧ k < w.heap.size := World.ownsRow.lt h
theorem OwnsQ.kept {w w1 : World} {base base' : Nat} {v v' : Value} {L : List (Int × Int × Int)} (h : OwnsQ w base v L) (hv : ∀ k, v'.ownBlock = some k → base' ≤ k) (hlt : ∀ k, v.ownBlock = some k → k < base') (hg : w.grownBy w1 v'.ownBlock) : OwnsQ w1 base v L := by
  refine World.ownsRow.kept h hg ?_
  cases e : v.ownBlock with
  | none => exact .inl rfl
  | some k =>
    refine .inr fun e' => ?_
    have := hv k e'.symm
    have := hlt k e
    omega
theorem OwnsQ.form {w : World} {base : Nat} {v : Value} {L : List (Int × Int × Int)} (h : OwnsQ w base v L) :
    ∃ (a : Option Addr) (cap : Nat), v = .slice a L.length cap ∧ ∀ i (_ : i < L.length), ∃ g, a = some ⟨g, 0, none⟩ ∧ w.cell? ⟨g, i * 3, none⟩ = some (.int .i64 L[i].1) ∧ w.cell? ⟨g, i * 3 + 1, none⟩ = some (.int .i64 L[i].2.1) ∧ w.cell? ⟨g, i * 3 + 2, none⟩ = some (.int .i64 L[i].2.2) ∧
      g < w.heap.size ∧ base ≤ g := by
  rcases h.2 with ⟨hv, hn⟩ | ⟨g, cap, cur, hv, hg, hh, hnc, hcm, hcs, ht⟩
  · exact ⟨none, 0, by rw [hv, hn], fun i hi => by omega⟩
  · have key : ∀ (i k : Nat) (hi : i < L.length) (hk : k < 3) (u : Value), (cellsQ L)[i * 3 + k]? = some u → w.cell? ⟨g, i * 3 + k, none⟩ = some u := fun i k hi hk u hu => by
      have h4 : (cur.toList.take (L.length * 3))[i * 3 + k]? = cur.toList[i * 3 + k]? := List.getElem?_take_of_lt (by omega)
      rw [ht, hu] at h4
      rw [Array.getElem?_toList] at h4
      show (match w.heap[g]? with | some (.cells cs _ _) => _ | _ => _) = _
      rw [hh]; exact h4.symm
    refine ⟨some ⟨g, 0, none⟩, cap, hv, fun i hi => ⟨g, rfl, ?_, ?_, ?_, (Array.getElem?_eq_some_iff.1 hh).1, hg⟩⟩
    · exact key i 0 hi (by omega) _ (cellsQ_get L i hi).1
    · exact key i 1 hi (by omega) _ (cellsQ_get L i hi).2.1
    · exact key i 2 hi (by omega) _ (cellsQ_get L i hi).2.2
theorem Tryz.infoQ : (Tryz.prog.info? 41).map (fun i => (i.zero, i.size, i.bytes)) = some (some (.agg #[.int .i64 0, .int .i64 0, .int .i64 0]), 3, 24) := by kernel_rfl
theorem wpList_appQ1 {ops : Array Oper} {rest : List Oper} {o : Oper} {a : Act} {Q : Exit → Act → World → Prop} {wr : World} {p : Int × Int × Int} (hgd : o.guard = none) (s x : Operand)
    (ho : o.op = .call { callee := .builtin .append, args := #[s, x], argTypes := #[90, 90] })
    (base : Nat) (v : Value) (L : List (Int × Int × Int)) (hs : a.eval s = v) (hown : OwnsQ wr base v L) (hx : a.eval x = .slice (some ⟨wr.heap.size, 0, none⟩) 1 1)
    (hlen : L.length < 1000000000000) (hbase : base ≤ wr.heap.size)
    (h : ∀ v' w1, OwnsQ w1 base v' (L ++ [p]) → Below base wr w1 → (wr.alloc (.cells #[.int .i64 p.1, .int .i64 p.2.1, .int .i64 p.2.2] 41)).grownBy w1 v.ownBlock → (v'.ownBlock = v.ownBlock ∨ ∃ k, v'.ownBlock = some k ∧ wr.heap.size ≤ k) → wpList Tryz.prog ops Q rest (a.put o.dst v') w1) :
    wpList Tryz.prog ops Q (o :: rest) a (wr.alloc (.cells #[.int .i64 p.1, .int .i64 p.2.1, .int .i64 p.2.2] 41)) := by
  obtain ⟨i0, hi, hz0, hz1, hz2⟩ := info_parts Tryz.infoQ
  refine wpList_append_own_at _ hgd s x 90 ho base 41 i0 (.agg #[.int .i64 0, .int .i64 0, .int .i64 0]) 3 24 Tryz.underlying90 hi hz0 hz1 hz2 rfl (by decide) v L.length (cellsQ L) hs (World.ownsRow.alloc hown _) ⟨wr.heap.size, 0, none⟩ 1 1 [.int .i64 p.1, .int .i64 p.2.1, .int .i64 p.2.2] hx rfl ?_ ?_ ?_ ?_ ?_ ?_
  · intro j u hj
    match j, hj with
    | 0, hj => simp at hj; subst hj; simp [Addr.add]
    | 1, hj => simp at hj; subst hj; simp [Addr.add]
    | 2, hj => simp at hj; subst hj; simp [Addr.add]
  · intro u hu; simp at hu; rcases hu with rfl | rfl | rfl <;> rfl
  · unfold maxLen; omega
  · omega
  · simp; omega
  · intro v' w1 hown' hgrow _ hat
    refine h v' w1 ?_ ?_ hgrow (hat.imp id fun h => ⟨_, h, by simp⟩)
    · show w1.ownsRow _ _ _ _ _ _
      rw [List.length_append, cellsQ_append]; exact hown'
    · refine ((Below.refl base wr).alloc hbase _).grown hgrow (by simp; omega) (fun k hk => ?_)
      exact (World.ownsRow.lt hown k hk).1
theorem wpList_appQ2 {ops : Array Oper} {rest : List Oper} {o : Oper} {a : Act} {Q : Exit → Act → World → Prop} {wr : World} {p q : Int × Int × Int} (hgd : o.guard = none) (s x : Operand)
    (ho : o.op = .call { callee := .builtin .append, args := #[s, x], argTypes := #[90, 90] })
    (base : Nat) (v : Value) (L : List (Int × Int × Int)) (hs : a.eval s = v) (hown : OwnsQ wr base v L) (hx : a.eval x = .slice (some ⟨wr.heap.size, 0, none⟩) 2 2)
    (hlen : L.length < 1000000000000) (hbase : base ≤ wr.heap.size)
    (h : ∀ v' w1, OwnsQ w1 base v' (L ++ [p, q]) → Below base wr w1 → (wr.alloc (.cells #[.int .i64 p.1, .int .i64 p.2.1, .int .i64 p.2.2, .int .i64 q.1, .int .i64 q.2.1, .int .i64 q.2.2] 41)).grownBy w1 v.ownBlock → (v'.ownBlock = v.ownBlock ∨ ∃ k, v'.ownBlock = some k ∧ wr.heap.size ≤ k) → wpList Tryz.prog ops Q rest (a.put o.dst v') w1) :
    wpList Tryz.prog ops Q (o :: rest) a (wr.alloc (.cells #[.int .i64 p.1, .int .i64 p.2.1, .int .i64 p.2.2, .int .i64 q.1, .int .i64 q.2.1, .int .i64 q.2.2] 41)) := by
  obtain ⟨i0, hi, hz0, hz1, hz2⟩ := info_parts Tryz.infoQ
  refine wpList_append_own_at _ hgd s x 90 ho base 41 i0 (.agg #[.int .i64 0, .int .i64 0, .int .i64 0]) 3 24 Tryz.underlying90 hi hz0 hz1 hz2 rfl (by decide) v L.length (cellsQ L) hs (World.ownsRow.alloc hown _) ⟨wr.heap.size, 0, none⟩ 2 2 [.int .i64 p.1, .int .i64 p.2.1, .int .i64 p.2.2, .int .i64 q.1, .int .i64 q.2.1, .int .i64 q.2.2] hx rfl ?_ ?_ ?_ ?_ ?_ ?_
  · intro j u hj
    match j, hj with
    | 0, hj => simp at hj; subst hj; simp [Addr.add]
    | 1, hj => simp at hj; subst hj; simp [Addr.add]
    | 2, hj => simp at hj; subst hj; simp [Addr.add]
    | 3, hj => simp at hj; subst hj; simp [Addr.add]
    | 4, hj => simp at hj; subst hj; simp [Addr.add]
    | 5, hj => simp at hj; subst hj; simp [Addr.add]
  · intro u hu; simp at hu; rcases hu with rfl | rfl | rfl | rfl | rfl | rfl <;> rfl
  · unfold maxLen; omega
  · omega
  · simp; omega
  · intro v' w1 hown' hgrow _ hat
    refine h v' w1 ?_ ?_ hgrow (hat.imp id fun h => ⟨_, h, by simp⟩)
    · show w1.ownsRow _ _ _ _ _ _
      rw [List.length_append, cellsQ_append]; exact hown'
    · refine ((Below.refl base wr).alloc hbase _).grown hgrow (by simp; omega) (fun k hk => ?_)
      exact (World.ownsRow.lt hown k hk).1
/-- a slice of one point, built on the spot -/
theorem OwnsQ.built (w : World) (p : Int × Int × Int) : OwnsQ (w.alloc (.cells #[.int .i64 p.1, .int .i64 p.2.1, .int .i64 p.2.2] 41)) w.heap.size (.slice (some ⟨w.heap.size, 0, none⟩) 1 1) [p] := by
  refine ⟨by simp [cellsQ], .inr ⟨w.heap.size, 1, #[.int .i64 p.1, .int .i64 p.2.1, .int .i64 p.2.2], rfl, Nat.le_refl _, ?_, ?_, ?_, ?_, ?_⟩⟩
  · exact Blk.new w _ _
  · simp
  · unfold maxLen; omega
  · simp
  · simp [cellsQ]
end Go.Proofs.YtbcjlhbpgcjddaaGreatDoor

/- Cnd -/
namespace Go.Proofs.YtbcjlhbpgcjddaaGreatDoor
open Go.RowKit

/-- the call returns a list of points of its own -/
def PtsPost (w : World) (L : List (Int × Int × Int)) (e : Ending) (w' : World) : Prop := ∃ v, e = .returned v ∧ OwnsQ w' w.heap.size v L ∧ Below w.heap.size w w'
theorem sqy_ne {y : Int} (hy : y ≠ 0) : y * y ≠ 0 := fun h => by rcases Int.mul_eq_zero.1 h with h | h <;> exact hy h
set_option maxHeartbeats 2000000 in
set_option maxRecDepth 100000 in
theorem c_candidates (A B : Int) (hA : -1000 ≤ A ∧ A ≤ 1000) (hB : -10000 ≤ B ∧ B ≤ 10000) (w : World) :
    Calls Tryz.prog 122 #[.agg #[.int .i64 A, .int .i64 B]] w (PtsPost w (cdL A B)) := by
  have hcl : ∀ (f : Nat) (x : Int), (cdF A B f x).length ≤ 2 * f := cdF_len A B
  have HCo := Lib.hid (fun W => c_core A B hA hB W)
  obtain ⟨g1, g2, g3⟩ := disc_bd hA hB
  have hdd : -7000000000 ≤ disc A B ∧ disc A B ≤ 7000000000 := by unfold disc; omega
  have kC := Blk.new w #[.int .i64 A, .int .i64 B] 45
  have hb0 : Below w.heap.size w (w.alloc (.cells #[.int .i64 A, .int .i64 B] 45)) := (Below.refl _ _).alloc (Nat.le_refl _) _
  have HL0 : Hid (cdF A B 6001 (-3000) = cdL A B) := rfl
  have HLl : Hid ((cdL A B).length ≤ 12002) := hcl 6001 (-3000)
  generalize cdL A B = L at HL0 HLl ⊢
  clear g1 g2 g3 hcl
  go_enter Tryz.func122, Tryz.ntmps122
  go_upto_region 1 with (fail)
  generalize w.alloc _ = W at *
  generalize hrC : w.heap.size = rC at *
  have hrC2 : Hid (w.heap.size = rC) := hrC
  clear hrC
  have hsz := kC.lt
  go_wp2
  go_loopw [3, 4] (fun v x wr => ∃ (f : Nat) (D : List (Int × Int × Int)), f ≤ 6001 ∧ x = .int .i64 (3001 - (f : Int)) ∧ Hid (D ++ cdF A B f (3001 - (f : Int)) = L) ∧ OwnsQ wr (rC + 1) v D ∧ Below (rC + 1) W wr) (fun _ x _ => (3001 - intOf x).toNat)
  case atStart => exact ⟨6001, [], by omega, by go_num, Lib.hid (by rw [List.nil_append]; exact HL0.out), OwnsQ.nil _ _, Below.refl _ _⟩
  case round =>
    clear HL0
    obtain ⟨f, D, hf, rfl, HD, ho, hbr⟩ := hrel
    have hzr := hbr.size
    have jC : Blk rC #[.int .i64 A, .int .i64 B] 45 wr := (hbr.block rC (Nat.lt_succ_self _)).trans kC
    by_cases hle : 1 ≤ f
    · obtain ⟨g, rfl⟩ : ∃ g, f = g + 1 := ⟨f - 1, by omega⟩
      have hx : -10000 ≤ 3001 - ((g + 1 : Nat) : Int) ∧ 3001 - ((g + 1 : Nat) : Int) ≤ 10000 := by omega
      have hnx : (3001 - ((g + 1 : Nat) : Int)) + 1 = 3001 - (g : Int) := by omega
      have hxx : 3001 - ((g + 1 : Nat) : Int) ≤ 3000 := by omega
      have hD : D ++ (cdAt A B (3001 - ((g + 1 : Nat) : Int)) ++ cdF A B g (3001 - (g : Int))) = L := by have h := HD.out; unfold cdF at h; rw [hnx] at h; exact h
      have hlD : D.length < 1000000000000 := by
        have h1 := HLl.out
        rw [← hD, List.length_append] at h1
        omega
      have HD2 := Lib.hid hD
      have HN := Lib.hid hnx
      clear hD hnx HD
      generalize 3001 - ((g + 1 : Nat) : Int) = x at *
      have HCv := Lib.hid (fun W => c_curveValue A B x 1 hA hB hx (by omega) W)
      have hcv := cv_lt hA hB hx (e := 1) (by omega)
      have HRt := Lib.hid (fun W => c_exactRootA (cvV A B x 1) hcv W)
      have hrt := rt_small hcv
      have HAt : Hid (cdAt A B x = if sqB (cvV A B x 1) = true then (if rtI (cvV A B x 1) = 0 then [(x, 0, 1)] else if (disc A B).tmod (rtI (cvV A B x 1) * rtI (cvV A B x 1)) = 0 then [(x, -rtI (cvV A B x 1), 1), (x, rtI (cvV A B x 1), 1)] else []) else []) := rfl
      generalize cdAt A B x = la at HAt HD2
      generalize cvV A B x 1 = q at HCv HRt hcv hrt HAt
      generalize sqB q = sb at HRt HAt
      generalize rtI q = rt at HRt hrt HAt
      have jC0 : (wr).cell? ⟨rC, 0, none⟩ = some (.int .i64 A) := jC.cell 0; have jC1 : (wr).cell? ⟨rC, 1, none⟩ = some (.int .i64 B) := jC.cell 1; have jCl : rC < (wr).heap.size := jC.lt
      go_wp2_with fail
      refine (HCv.out _).mono ?_
      rintro e w1 ⟨rfl, hb1⟩
      go_wp2_with fail
      refine (HRt.out _).mono ?_
      rintro e _ ⟨rfl, rfl⟩
      clear HCv HRt jC0 jC1 jCl
      have hb2 : Below (rC + 1) W w1 := hbr.trans (hb1.mono (by omega))
      replace ho := ho.below hb1
      replace jC := jC.next hb1
      have hz2 := hb2.size
      cases sb
      · have hla : la = [] := HAt.out
        subst hla
        go_wp2
        go_roundw
        case rel => exact ⟨g, D, by omega, by rw [← HN.out], HD2, ho, hb2⟩
        case measure => simp [intOf]; omega
      · by_cases hr0 : rt = 0
        · subst hr0
          have hla : la = [(x, 0, 1)] := HAt.out
          subst hla
          go_wp2_with (at_builtin; refine wpList_appQ1 (p := (x, 0, 1)) rfl _ _ rfl (rC + 1) _ _ rfl ho rfl hlD (by omega) ?_; intro v' w4 ho4 hb4 hg4 _)
          have hb5 : Below (rC + 1) W w4 := hb2.trans hb4
          go_wp2
          go_roundw
          case rel => exact ⟨g, D ++ [(x, 0, 1)], by omega, by rw [← HN.out], Lib.hid (by rw [List.append_assoc]; exact HD2.out), ho4, hb5⟩
          case measure => simp [intOf]; omega
        · rw [if_pos rfl, if_neg hr0] at HAt
          have hr1 : (rt == 0) = false := by simpa using hr0
          have hr2 := sqy_ne hr0
          have mm := mulb (x := rt) (y := rt) 2000001 2000001 (by omega) (by omega)
          clear hr0
          have jC0 : (w1).cell? ⟨rC, 0, none⟩ = some (.int .i64 A) := jC.cell 0; have jC1 : (w1).cell? ⟨rC, 1, none⟩ = some (.int .i64 B) := jC.cell 1; have jCl : rC < (w1).heap.size := jC.lt
          go_wp2_with fail
          refine (HCo.out _).mono ?_
          rintro e w3 ⟨rfl, hb3⟩
          have hb6 : Below (rC + 1) W w3 := hb2.trans (hb3.mono (by omega))
          replace ho := ho.below hb3
          clear jC0 jC1 jCl
          generalize disc A B = dd at hdd HAt ⊢
          by_cases hm : dd.tmod (rt * rt) = 0
          · have hla : la = [(x, -rt, 1), (x, rt, 1)] := by have h := HAt.out; rw [if_pos hm] at h; exact h
            subst hla
            go_wp2_with (at_builtin; refine wpList_appQ2 (p := (x, -rt, 1)) (q := (x, rt, 1)) rfl _ _ rfl (rC + 1) _ _ rfl ho rfl hlD (by have := hb6.size; omega) ?_; intro v' w4 ho4 hb4 hg4 _)
            have hb5 : Below (rC + 1) W w4 := hb6.trans hb4
            go_wp2
            go_roundw
            case rel => exact ⟨g, D ++ [(x, -rt, 1), (x, rt, 1)], by omega, by rw [← HN.out], Lib.hid (by rw [List.append_assoc]; exact HD2.out), ho4, hb5⟩
            case measure => simp [intOf]; omega
          · have hla : la = [] := by have h := HAt.out; rw [if_neg hm] at h; exact h
            subst hla
            have hm1 : (dd.tmod (rt * rt) == 0) = false := by simpa using hm
            clear hm
            go_wp2
            go_roundw
            case rel => exact ⟨g, D, by omega, by rw [← HN.out], HD2, ho, hb6⟩
            case measure => simp [intOf]; omega
    · obtain rfl : f = 0 := by omega
      have hD := HD.out
      unfold cdF at hD
      rw [List.append_nil] at hD
      subst hD
      clear HD
      go_wp2
      refine bodyPost_ret (v := u3) (by simp [results, Tryz.results122, go_sem]) rfl ?_
      exact ⟨u3, rfl, ho.le (by rw [hrC2.out]; omega), hrC2.out ▸ (hb0.trans (hbr.mono (by omega)))⟩
end Go.Proofs.YtbcjlhbpgcjddaaGreatDoor
