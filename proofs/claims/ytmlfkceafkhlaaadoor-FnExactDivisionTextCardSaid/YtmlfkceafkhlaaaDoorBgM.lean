/- Walks: products of wholes (mulWholes). -/
import Derived.Test.YtmlfkceafkhlaaaDoorBgQ
import Derived.Test.YtmlfkceafkhlaaaDoorBgF
namespace Go.Proofs.YtmlfkceafkhlaaaDoor
open Go.RowKit

theorem sg_mul {M N : Int} {s t : Bool} (h1 : Hid (decide (M < 0) = s)) (h2 : Hid (decide (N < 0) = t)) : (s != t) = decide (M * N < 0) ∨ M * N = 0 := by
  have h1 := h1.out
  have h2 := h2.out
  by_cases hM : M = 0
  · right; rw [hM, Int.zero_mul]
  by_cases hN : N = 0
  · right; rw [hN, Int.mul_zero]
  left
  cases s <;> cases t <;> simp at h1 h2 ⊢
  · exact Int.mul_nonneg h1 h2
  · exact Int.mul_neg_of_pos_of_neg (by omega) h2
  · exact Int.mul_neg_of_neg_of_pos h1 (by omega)
  · exact Int.le_of_lt (Int.mul_pos_of_neg_of_neg h1 h2)
set_option maxHeartbeats 4000000 in
set_option maxRecDepth 20000 in
theorem c_mulWholes (M N : Int) (a b : Value) (hM : (dg M.natAbs).length ≤ 40000) (hN : (dg N.natAbs).length ≤ 40000) (w : World) (ha : WhR M a w) (hb : WhR N b w) :
    Calls Tryd.prog 51 #[a, b] w (WhP (M * N) w) := by
  obtain ⟨la, rfl, hra⟩ := ha
  obtain ⟨lb, rfl, hrb⟩ := hb
  have kA := ((Blk.new w #[.bool (decide (M < 0)), la] 31).alloc (.cells #[.bool (decide (N < 0)), lb] 31)).alloc (.cells #[.bool false, .slice none 0 0] 31)
  have kB := (Blk.new (w.alloc (.cells #[.bool (decide (M < 0)), la] 31)) #[.bool (decide (N < 0)), lb] 31).alloc (.cells #[.bool false, .slice none 0 0] 31)
  have kS := Blk.new ((w.alloc (.cells #[.bool (decide (M < 0)), la] 31)).alloc (.cells #[.bool (decide (N < 0)), lb] 31)) #[.bool false, .slice none 0 0] 31
  have hb0 : Below w.heap.size w (((w.alloc (.cells #[.bool (decide (M < 0)), la] 31)).alloc (.cells #[.bool (decide (N < 0)), lb] 31)).alloc (.cells #[.bool false, .slice none 0 0] 31)) := (((Below.refl _ _).alloc (Nat.le_refl _) _).alloc (by simp) _).alloc (by simp; omega) _
  simp only [World.size_alloc] at kB kS
  have HR1 := Lib.hid hra
  have HR2 := Lib.hid hrb
  generalize hsa : decide (M < 0) = sa at *
  generalize hsb : decide (N < 0) = sb at *
  have HSA := Lib.hid hsa
  have HSB := Lib.hid hsb
  clear hsa hsb
  have HSG := Lib.hid (sg_mul HSA HSB)
  obtain ⟨K, hK⟩ : ∃ K, M * N = K := ⟨_, rfl⟩
  have HV : Hid (vl (dg M.natAbs) * vl (dg N.natAbs) = K.natAbs) := by
    show _ = _
    rw [dg_V, dg_V, ← hK, Int.natAbs_mul, Int.natCast_mul]
  rw [hK] at HSG ⊢
  clear hK
  have hdA := dg_D M.natAbs
  have hdB := dg_D N.natAbs
  generalize dg M.natAbs = A at *
  generalize dg N.natAbs = B at *
  have hsz := hb0.size
  obtain ⟨aa, ca, rfl, _, _⟩ := hra
  obtain ⟨ab, cb, rfl, _, _⟩ := hrb
  go_enter Tryd.func51, Tryd.ntmps51
  go_upto_region 1 with (fail)
  generalize ((w.alloc _).alloc _).alloc _ = W at *
  generalize hrs : w.heap.size + 1 + 1 = rs at *
  have HA := Lib.hid (HR1.out.below hb0)
  have HB := Lib.hid (HR2.out.below hb0)
  obtain ⟨wm, hmk, ho0, hbm⟩ := mk_ints W (A.length + B.length + 1) (by omega)
  simp only [Int.natCast_add, Int.cast_ofNat_Int] at hmk
  have a1 : W.cell? ⟨w.heap.size, 1, none⟩ = some (.slice aa A.length ca) := kA.cell 1
  have b1 : W.cell? ⟨w.heap.size + 1, 1, none⟩ = some (.slice ab B.length cb) := kB.cell 1
  go_upto_region 2 with (fail)
  clear hmk
  have a1m : wm.cell? ⟨w.heap.size, 1, none⟩ = some (.slice aa A.length ca) := (kA.next hbm).cell 1
  generalize hG : W.heap.size = G at *
  have HG := Lib.hid hG
  clear hG
  have kSl : rs < G := by rw [← HG.out]; exact kS.lt
  have kAl : w.heap.size < G := by rw [← HG.out]; exact kA.lt
  have kBl : w.heap.size + 1 < G := by rw [← HG.out]; exact kB.lt
  go_upto_region 3 with (fail)
  go_loopw [23] (fun iv wr => ∃ (i : Nat) (S : List Int), i ≤ A.length ∧ iv = .int .i64 i ∧ Hid (S.length = A.length + B.length + 1 ∧ Dg S ∧ vl S = vl (A.take i) * vl B) ∧ OwnsI wr G (.slice (some ⟨G, 0, none⟩) (A.length + B.length + 1) (A.length + B.length + 1)) S ∧ Below G W wr) (fun iv _ => A.length - (intOf iv).toNat)
  case atStart => exact ⟨0, List.replicate (A.length + B.length + 1) 0, by omega, rfl, ⟨by simp, fun x hx => by rw [List.eq_of_mem_replicate hx]; omega, by rw [vl_zeros]; simp [vl]⟩, ho0, hbm⟩
  case round =>
    clear ho0 hbm a1m
    obtain ⟨i, S, hi, rfl, hS, ho, hb⟩ := hrel
    have kA1 := kA.next (HG.out ▸ hb)
    have kB1 := kB.next (HG.out ▸ hb)
    have kS1 := kS.next (HG.out ▸ hb)
    by_cases hlt : i < A.length
    · have hxa := hdA.adi i
      obtain ⟨_, _, e1, _, hca⟩ := HA.out
      injection e1 with e1 _ e2
      subst e1 e2
      obtain ⟨ga, oa, rfl, q1, hga⟩ := hca i hlt
      have d1 := (hb.cell (p := ⟨ga, oa + i, none⟩) (HG.out ▸ hga)).trans q1
      generalize ex : A[i]?.getD 0 = x at d1 hxa
      have HX := Lib.hid ex
      clear ex q1 hca
      go_upto_region 7 with (fail)
      go_loopw [8, 9] (fun cv kv wr => ∃ (k : Nat) (c : Int) (S : List Int), i ≤ k ∧ k ≤ A.length + B.length + 1 ∧ cv = .int .i64 c ∧ kv = .int .i64 k ∧ Hid (Mi A B (A.length + B.length + 1) i k x S c) ∧ OwnsI wr G (.slice (some ⟨G, 0, none⟩) (A.length + B.length + 1) (A.length + B.length + 1)) S ∧ Below G W wr) (fun _ kv _ => A.length + B.length + 1 - (intOf kv).toNat)
      case atStart => exact ⟨i, 0, S, by omega, by omega, rfl, rfl, Lib.hid (Mi.start hS.out.1 hS.out.2.1 hS.out.2.2), ho, hb⟩
      case round =>
        clear hS ho kA1 kB1 kS1 hb d1
        obtain ⟨k, c, S, hik, hk, rfl, rfl, hI, ho, hb⟩ := hrel
        by_cases hkn : k < A.length + B.length + 1
        · have hl := Lib.hid hI.out.len
          have s1 := ho.cell (i := k) (by rw [hl.out]; exact hkn)
          have f1 := ho.frozen k
          have hsb := hI.out.dg.adi k
          have hclo := hI.out.lo
          have hchi := hI.out.hi
          have kB1 := kB.next (HG.out ▸ hb)
          have b1r : wr.cell? ⟨w.heap.size + 1, 1, none⟩ = some (.slice ab B.length cb) := kB1.cell 1
          have hG2 : G < wr.heap.size := (ho.lt G rfl).2
          generalize es : S[k]?.getD 0 = s at s1 hsb
          obtain ⟨d, hkd⟩ : ∃ d, k = i + d := ⟨k - i, by omega⟩
          have hki : (k : Int) - (i : Int) = (d : Int) := by omega
          have hdi : k - i = d := by omega
          have HKD := Lib.hid hkd
          clear hkd
          by_cases hd : d < B.length
          · obtain ⟨gb, ob, rfl, q2, hgb⟩ := (by obtain ⟨_, _, e1, _, hcb⟩ := HB.out; injection e1 with e1 _ e2; subst e1 e2; exact hcb d hd : ∃ g o, ab = some ⟨g, o, none⟩ ∧ W.cell? ⟨g, o + d, none⟩ = some (.int .i64 (B[d]?.getD 0)) ∧ g < W.heap.size)
            have d2 := (hb.cell (p := ⟨gb, ob + d, none⟩) (HG.out ▸ hgb)).trans q2
            have hyb := hdB.adi d
            generalize ey : B[d]?.getD 0 = y at d2 hyb
            have hm := mul_bdD hxa hyb
            have hz0 : 0 ≤ s + c + x * y := by omega
            have HI2 := Lib.hid (hI.out.step (y := y) hkn hik hxa hdB es (by rw [hdi]; exact ey))
            clear es ey q2 hI hdi
            go_wp2
            go_roundw
            case rel => exact ⟨k + 1, (s + c + x * y) / 10000, S.set k ((s + c + x * y) % 10000), by omega, by omega, by go_num, by go_num, HI2, ho.setG hl.out.symm k _, hb.setCell (Nat.le_refl _) _⟩
            case measure => simp [intOf]; omega
          · have ey : B[k - i]?.getD 0 = 0 := by rw [hdi]; simp [hd]
            have hz0 : 0 ≤ s + c := by omega
            have HI2 := Lib.hid (hI.out.step hkn hik hxa hdB es ey)
            rw [Int.mul_zero, Int.add_zero] at HI2
            clear es ey hI hdi
            go_wp2
            go_roundw
            case rel => exact ⟨k + 1, (s + c) / 10000, S.set k ((s + c) % 10000), by omega, by omega, by go_num, by go_num, HI2, ho.setG hl.out.symm k _, hb.setCell (Nat.le_refl _) _⟩
            case measure => simp [intOf]; omega
        · obtain rfl : k = A.length + B.length + 1 := by omega
          have HI2 := Lib.hid (And.intro hI.out.len (And.intro hI.out.dg (hI.out.done hdA hdB HX.out hlt rfl).2))
          clear hI
          go_wp2
          go_roundw
          case rel => exact ⟨i + 1, S, by omega, by go_num, HI2, ho, hb⟩
          case measure => simp [intOf]; omega
    · obtain rfl : i = A.length := by omega
      have hl := hS.out.1
      have HT := Lib.hid ((c_trimmed (sa != sb) _ S (by omega) wr ho.rdL).mono fun e w' h => h.whole (N := K) HSG.out (tr_val hS.out.2.1 (hS.out.2.2.trans (by rw [vl_take_full A (Nat.le_refl _)])) HV.out))
      clear hS hl
      have a0 : wr.cell? ⟨w.heap.size, 0, none⟩ = some (.bool sa) := kA1.cell 0
      have b0 : wr.cell? ⟨w.heap.size + 1, 0, none⟩ = some (.bool sb) := kB1.cell 0
      have hb2 : Below w.heap.size w wr := below_step (HG.out ▸ hb) hsz hb0
      have hsz2 := hb2.size
      have hGr := hb.size
      go_wp2_with fail
      refine HT.out.mono ?_
      rintro e w1 ⟨v, rfl, hwh, hb1⟩
      obtain ⟨lv, rfl, ho9⟩ := hwh
      obtain ⟨sl, scap, rfl, _⟩ := id ho9.1
      have kS2 := kS1.next hb1
      have c0 : w1.cell? ⟨rs, 0, none⟩ = some (.bool false) := kS2.cell 0
      have c1 : w1.cell? ⟨rs, 1, none⟩ = some (.slice none 0 0) := kS2.cell 1
      have z0 := kS2.frozen 0
      have z1 := kS2.frozen 1
      have hbb : Below w.heap.size w w1 := below_step hb1 hsz2 hb2
      have k9 := (kS2.set 0 (.bool (decide (K < 0)))).set 1 (.slice sl (dg K.natAbs).length scap)
      have hB9 : Below w.heap.size w ((w1.setCell ⟨rs, 0, none⟩ (.bool (decide (K < 0)))).setCell ⟨rs, 1, none⟩ (.slice sl (dg K.natAbs).length scap)) := (hbb.setCell (by simp; omega) _).setCell (by simp; omega) _
      have ho8 := ho9.set2 (S := rs) kS1.lt (.bool (decide (K < 0))) (.slice sl (dg K.natAbs).length scap)
      replace ho8 : RdO _ w.heap.size _ _ := ho8.le hsz2
      clear HT ho9
      go_wp2
      generalize (World.setCell (World.setCell _ _ _) _ _) = w9 at hB9 k9 ho8 ⊢
      have q0 : w9.cell? ⟨rs, 0, none⟩ = some (.bool (decide (K < 0))) := k9.cell 0
      have q1 : w9.cell? ⟨rs, 1, none⟩ = some (.slice sl (dg K.natAbs).length scap) := k9.cell 1
      refine bodyPost_ret (v := .agg #[.bool (decide (K < 0)), .slice sl (dg K.natAbs).length scap]) (by simp [results, Tryd.results51, go_sem, q0, q1]) rfl ?_
      exact ⟨_, rfl, ⟨_, rfl, ho8⟩, hB9⟩
end Go.Proofs.YtmlfkceafkhlaaaDoor
