/- Walks: products of wholes (bgMul). -/
import Derived.Test.YtmlfkceafkhlaaaDoorBgR
namespace Go.Proofs.YtmlfkceafkhlaaaDoor
open Go.RowKit

set_option maxHeartbeats 4000000 in
set_option maxRecDepth 20000 in
theorem c_bgMul (M N : Int) (a b : Value) (hM : (dg M.natAbs).length ≤ 40000) (hN : (dg N.natAbs).length ≤ 40000) (w : World) (ha : WhR M a w) (hb : WhR N b w) :
    Calls Tryd.prog 30 #[a, b] w (WhP (M * N) w) := by
  obtain ⟨la, rfl, hra⟩ := ha
  obtain ⟨lb, rfl, hrb⟩ := hb
  have kA := ((Blk.new w #[.bool (decide (M < 0)), la] 31).alloc (.cells #[.bool (decide (N < 0)), lb] 31)).alloc (.cells #[.bool false, .slice none 0 0] 31)
  have kB := (Blk.new (w.alloc (.cells #[.bool (decide (M < 0)), la] 31)) #[.bool (decide (N < 0)), lb] 31).alloc (.cells #[.bool false, .slice none 0 0] 31)
  have kS := Blk.new ((w.alloc (.cells #[.bool (decide (M < 0)), la] 31)).alloc (.cells #[.bool (decide (N < 0)), lb] 31)) #[.bool false, .slice none 0 0] 31
  have hb0 : Below w.heap.size w (((w.alloc (.cells #[.bool (decide (M < 0)), la] 31)).alloc (.cells #[.bool (decide (N < 0)), lb] 31)).alloc (.cells #[.bool false, .slice none 0 0] 31)) := (((Below.refl _ _).alloc (Nat.le_refl _) _).alloc (by simp) _).alloc (by simp; omega) _
  simp only [World.size_alloc] at kB kS
  have HR1 := Lib.hid hra
  have HR2 := Lib.hid hrb
  generalize hsa : decide (M < 0) = sa at *
  generalize hsb : decide (N < 0) = sb at *
  have HSA := Lib.hid hsa
  have HSB := Lib.hid hsb
  clear hsa hsb
  have HSG := Lib.hid (sg_mul HSA HSB)
  obtain ⟨K, hK⟩ : ∃ K, M * N = K := ⟨_, rfl⟩
  have HV : Hid (vl (dg M.natAbs) * vl (dg N.natAbs) = K.natAbs) := by
    show _ = _
    rw [dg_V, dg_V, ← hK, Int.natAbs_mul, Int.natCast_mul]
  rw [hK] at HSG ⊢
  clear hK
  have hdA := dg_D M.natAbs
  have hdB := dg_D N.natAbs
  generalize dg M.natAbs = A at *
  generalize dg N.natAbs = B at *
  have hsz := hb0.size
  obtain ⟨aa, ca, rfl, _, _⟩ := hra
  obtain ⟨ab, cb, rfl, _, _⟩ := hrb
  go_enter Tryd.func30, Tryd.ntmps30
  go_upto_region 1 with (fail)
  generalize ((w.alloc _).alloc _).alloc _ = W at *
  generalize hrs : w.heap.size + 1 + 1 = rs at *
  have HA := Lib.hid (HR1.out.below hb0)
  have HB := Lib.hid (HR2.out.below hb0)
  obtain ⟨wm, hmk, ho0, hbm⟩ := mk_ints W (A.length + B.length) (by omega)
  simp only [Int.natCast_add] at hmk
  have a1 : W.cell? ⟨w.heap.size, 1, none⟩ = some (.slice aa A.length ca) := kA.cell 1
  have b1 : W.cell? ⟨w.heap.size + 1, 1, none⟩ = some (.slice ab B.length cb) := kB.cell 1
  go_upto_region 2 with (fail)
  clear hmk
  have a1m : wm.cell? ⟨w.heap.size, 1, none⟩ = some (.slice aa A.length ca) := (kA.next hbm).cell 1
  generalize hG : W.heap.size = G at *
  have HG := Lib.hid hG
  clear hG
  have kSl : rs < G := by rw [← HG.out]; exact kS.lt
  have kAl : w.heap.size < G := by rw [← HG.out]; exact kA.lt
  have kBl : w.heap.size + 1 < G := by rw [← HG.out]; exact kB.lt
  have kSl2 : (0 : Int) ≤ A.length := by omega
  go_upto_region 3 with (fail)
  go_loopw [24] (fun iv wr => ∃ (i : Nat) (S : List Int), i ≤ A.length ∧ iv = .int .i64 i ∧ Hid (So A B (A.length + B.length) i S) ∧ OwnsI wr G (.slice (some ⟨G, 0, none⟩) (A.length + B.length) (A.length + B.length)) S ∧ Below G W wr) (fun iv _ => A.length - (intOf iv).toNat)
  case atStart => exact ⟨0, List.replicate (A.length + B.length) 0, by omega, rfl, Lib.hid (So.start _), ho0, hbm⟩
  case round =>
    clear ho0 hbm a1m
    obtain ⟨i, S, hi, rfl, hS, ho, hb⟩ := hrel
    by_cases hlt : i < A.length
    · have hxa := hdA.adi i
      obtain ⟨_, _, e1, _, hca⟩ := HA.out
      injection e1 with e1 _ e2
      subst e1 e2
      obtain ⟨ga, oa, rfl, q1, hga⟩ := hca i hlt
      have d1 := (hb.cell (p := ⟨ga, oa + i, none⟩) (HG.out ▸ hga)).trans q1
      have kB1 := kB.next (HG.out ▸ hb)
      have b1r : wr.cell? ⟨w.heap.size + 1, 1, none⟩ = some (.slice ab B.length cb) := kB1.cell 1
      generalize ex : A[i]?.getD 0 = x at d1 hxa
      have HX := Lib.hid ex
      clear ex q1 hca
      go_upto_region 6 with (fail)
      go_loopw [32] (fun kv wr => ∃ (k : Nat) (S : List Int), k ≤ B.length ∧ kv = .int .i64 k ∧ Hid (Su A B (A.length + B.length) i k x S) ∧ OwnsI wr G (.slice (some ⟨G, 0, none⟩) (A.length + B.length) (A.length + B.length)) S ∧ Below G W wr) (fun kv _ => B.length - (intOf kv).toNat)
      case atStart => exact ⟨0, S, by omega, rfl, Lib.hid (hS.out.su x), ho, hb⟩
      case round =>
        clear hS ho kB1 hb d1 b1r
        obtain ⟨k, S, hk, rfl, hI, ho, hb⟩ := hrel
        by_cases hkn : k < B.length
        · have hl := Lib.hid hI.out.len
          have hik : i + k < (A.length + B.length) := by omega
          have s1 := ho.cell (i := i + k) (by rw [hl.out]; exact hik)
          have f1 := ho.frozen (i + k)
          have hsb := hI.out.bd (i + k)
          have hG2 : G < wr.heap.size := (ho.lt G rfl).2
          have hA4 : ((i : Int) + 1) * 99980001 ≤ 5000000000000 := by omega
          generalize es : S[i + k]?.getD 0 = s at s1 hsb
          obtain ⟨gb, ob, rfl, q2, hgb⟩ := (by obtain ⟨_, _, e1, _, hcb⟩ := HB.out; injection e1 with e1 _ e2; subst e1 e2; exact hcb k hkn : ∃ g o, ab = some ⟨g, o, none⟩ ∧ W.cell? ⟨g, o + k, none⟩ = some (.int .i64 (B[k]?.getD 0)) ∧ g < W.heap.size)
          have d2 := (hb.cell (p := ⟨gb, ob + k, none⟩) (HG.out ▸ hgb)).trans q2
          have hyb := hdB.adi k
          generalize ey : B[k]?.getD 0 = y at d2 hyb
          have hm := mul_bdD hxa hyb
          have hs5 : 0 ≤ s ∧ s ≤ 5000000000000 := by omega
          have hz0 : 0 ≤ s + x * y := by omega
          have HI2 := Lib.hid (hI.out.step (y := y) hik hxa hdB es ey)
          clear es ey q2 hI hsb hA4
          go_wp2
          go_roundw
          case rel => exact ⟨k + 1, S.set (i + k) (s + x * y), by omega, by go_num, HI2, ho.setG hl.out.symm (i + k) _, hb.setCell (Nat.le_refl _) _⟩
          case measure => simp [intOf]; omega
        · obtain rfl : k = B.length := by omega
          have HI2 := Lib.hid (hI.out.so HX.out)
          clear hI
          go_wp2
          go_roundw
          case rel => exact ⟨i + 1, S, by omega, by go_num, HI2, ho, hb⟩
          case measure => simp [intOf]; omega
    · obtain rfl : i = A.length := by omega
      have hsl := Lib.hid hS.out.len
      have hbd := Lib.hid hS.out.bd
      have hVS : Hid (vl S = K.natAbs) := by
        show _ = _
        rw [hS.out.eq, vl_take_full A (Nat.le_refl _), HV.out]
      clear hS
      have hnn : (0 : Int) ≤ (A.length : Int) * 99980001 := by omega
      have hnb : (A.length : Int) * 99980001 ≤ 4000000000000 := by omega
      obtain ⟨Bd, hBd⟩ : ∃ Bd, (A.length : Int) * 99980001 = Bd := ⟨_, rfl⟩
      rw [hBd] at hbd hnn hnb
      clear hBd
      go_upto_region 13 with (fail)
      go_loopw [10, 52] (fun cv iv wr => ∃ (i : Nat) (c : Int) (O : List Int), i ≤ (A.length + B.length) ∧ cv = .int .i64 c ∧ iv = .int .i64 i ∧ Hid (Ca S Bd i O c) ∧ OwnsI wr G (.slice (some ⟨G, 0, none⟩) (A.length + B.length) (A.length + B.length)) (O ++ S.drop i) ∧ Below G W wr) (fun _ iv _ => (A.length + B.length) - (intOf iv).toNat)
      case atStart => exact ⟨0, 0, [], by omega, rfl, rfl, Lib.hid (Ca.start hnn), by simpa using ho, hb⟩
      case round =>
        clear ho hb
        obtain ⟨i, c, O, hi9, rfl, rfl, hI, ho, hb⟩ := hrel
        have hol := Lib.hid hI.out.len
        by_cases hin : i < (A.length + B.length)
        · have hlL : Hid ((O ++ S.drop i).length = (A.length + B.length)) := by
            show _ = _
            rw [ca_len hol.out (by rw [hsl.out]; exact hi9), hsl.out]
          have s1 := ho.cell (i := i) (by rw [hlL.out]; exact hin)
          rw [ca_get hol.out] at s1
          have f1 := ho.frozen i
          have hsb := hbd.out i
          have hclo := hI.out.lo
          have hchi := hI.out.hi
          have hG2 : G < wr.heap.size := (ho.lt G rfl).2
          generalize es : S[i]?.getD 0 = s at s1 hsb
          have hz0 : 0 ≤ s + c := by omega
          have HI2 := Lib.hid (hI.out.step es hsb)
          have HO2 := Lib.hid (ca_set hol.out (by rw [hsl.out]; exact hin) ((s + c) % 10000))
          clear es hI
          go_wp2
          go_roundw
          case rel => exact ⟨i + 1, (s + c) / 10000, O ++ [(s + c) % 10000], by omega, by go_num, by go_num, HI2, by rw [← HO2.out]; exact ho.setG hlL.out.symm i _, hb.setCell (Nat.le_refl _) _⟩
          case measure => simp [intOf]; omega
        · obtain rfl : i = (A.length + B.length) := by omega
          have hval : vl O = K.natAbs := hI.out.done hsl.out hVS.out (by rw [← HV.out]; exact mul_lt hdA hdB (Nat.le_refl _) (Nat.le_refl _))
          rw [List.drop_of_length_le (by rw [hsl.out]; exact Nat.le_refl _), List.append_nil] at ho
          have kA1 := kA.next (HG.out ▸ hb)
          have kB1 := kB.next (HG.out ▸ hb)
          have kS1 := kS.next (HG.out ▸ hb)
          have HTR := Lib.hid (tr_val hI.out.dg hval rfl)
          have hr9 := ho.rdL
          obtain ⟨_, _, e9, _⟩ := id hr9
          have HT := Lib.hid ((c_bgMake (sa != sb) _ O (by rw [hol.out]; omega) wr hr9).mono fun e w' h => h.whole (N := K) HSG.out HTR.out)
          clear hval hI e9 hr9
          have a0 : wr.cell? ⟨w.heap.size, 0, none⟩ = some (.bool sa) := kA1.cell 0
          have b0 : wr.cell? ⟨w.heap.size + 1, 0, none⟩ = some (.bool sb) := kB1.cell 0
          have hb2 : Below w.heap.size w wr := below_step (HG.out ▸ hb) hsz hb0
          have hsz2 := hb2.size
          have hGr := hb.size
          go_wp2_with fail
          refine HT.out.mono ?_
          rintro e w1 ⟨v, rfl, hwh, hb1⟩
          obtain ⟨lv, rfl, ho9⟩ := hwh
          obtain ⟨sl, scap, rfl, _⟩ := id ho9.1
          have kS2 := kS1.next hb1
          have c0 : w1.cell? ⟨rs, 0, none⟩ = some (.bool false) := kS2.cell 0
          have c1 : w1.cell? ⟨rs, 1, none⟩ = some (.slice none 0 0) := kS2.cell 1
          have z0 := kS2.frozen 0
          have z1 := kS2.frozen 1
          have hbb : Below w.heap.size w w1 := below_step hb1 hsz2 hb2
          have k9 := (kS2.set 0 (.bool (decide (K < 0)))).set 1 (.slice sl (dg K.natAbs).length scap)
          have hB9 : Below w.heap.size w ((w1.setCell ⟨rs, 0, none⟩ (.bool (decide (K < 0)))).setCell ⟨rs, 1, none⟩ (.slice sl (dg K.natAbs).length scap)) := (hbb.setCell (by simp; omega) _).setCell (by simp; omega) _
          have ho8 := ho9.set2 (S := rs) kS1.lt (.bool (decide (K < 0))) (.slice sl (dg K.natAbs).length scap)
          replace ho8 : RdO _ w.heap.size _ _ := ho8.le hsz2
          clear HT ho9
          go_wp2
          generalize (World.setCell (World.setCell _ _ _) _ _) = w9 at hB9 k9 ho8 ⊢
          have q0 : w9.cell? ⟨rs, 0, none⟩ = some (.bool (decide (K < 0))) := k9.cell 0
          have q1 : w9.cell? ⟨rs, 1, none⟩ = some (.slice sl (dg K.natAbs).length scap) := k9.cell 1
          refine bodyPost_ret (v := .agg #[.bool (decide (K < 0)), .slice sl (dg K.natAbs).length scap]) (by simp [results, Tryd.results30, go_sem, q0, q1]) rfl ?_
          exact ⟨_, rfl, ⟨_, rfl, ho8⟩, hB9⟩
end Go.Proofs.YtmlfkceafkhlaaaDoor
