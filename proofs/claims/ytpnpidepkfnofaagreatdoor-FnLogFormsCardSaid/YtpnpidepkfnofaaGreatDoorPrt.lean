/- Walks: texts of logs read (ParseLog), the reference's way. -/
import Derived.Test.YtpnpidepkfnofaaGreatDoorPrs
import Derived.Deep.Cut
namespace Go.Proofs.YtpnpidepkfnofaaGreatDoor
open Go.RowKit

theorem qcs_at {s : ByteArray} {L : List (Int × Int)} (h : isTxt s L) : (splB s 10).length = L.length + 1 ∧ ∀ (i : Nat) (hi : i < (splB s 10).length) (hl : i < L.length), (splB s 10)[i].data.toList = lnH L[i] := by
  have h1 := splB_cut s 10
  rw [h.data, cutL_text L h.steps] at h1
  have hl1 : (splB s 10).length = L.length + 1 := by
    have := congrArg List.length h1
    simpa using this
  refine ⟨hl1, fun i hi hl => ?_⟩
  have := congrArg (·[i]?) h1
  simp only [List.getElem?_map, List.getElem?_eq_getElem hi, Option.map_some] at this
  rw [List.getElem?_append_left (by simpa using hl), List.getElem?_map, List.getElem?_eq_getElem hl] at this
  exact Option.some.inj this
theorem spl_line {p : ByteArray} {c : Int × Int} (hp : p.data.toList = lnH c) (h : stepB c.1 c.2 = true) : ∃ a b, splB p 32 = [a, b] ∧ a.data.toList = nmB c.1 ∧ b.data.toList = itZ c.2 := by
  have h1 := splB_cut p 32
  rw [hp, cutL_lnH h] at h1
  rcases hs : splB p 32 with _ | ⟨a, _ | ⟨b, _ | ⟨d, r⟩⟩⟩
  · rw [hs] at h1; simp at h1
  · rw [hs] at h1; simp at h1
  · rw [hs] at h1
    simp only [List.map_cons, List.map_nil, List.cons.injEq, and_true] at h1
    exact ⟨a, b, rfl, h1.1, h1.2⟩
  · rw [hs] at h1; simp at h1
/-- the last name that fits -/
def kdTo (x : ByteArray) : Nat → Int
  | 0 => -1
  | j + 1 => if namesV.getD j ⟨#[]⟩ = x then (j : Int) else kdTo x j
theorem kdTo_bd (x : ByteArray) : ∀ j, -1 ≤ kdTo x j ∧ kdTo x j ≤ (j : Int)
  | 0 => by simp [kdTo]
  | j + 1 => by
    have := kdTo_bd x j
    unfold kdTo
    split <;> omega
theorem kd_name {k : Int} (h : 0 ≤ k ∧ k ≤ 3) : kdTo ⟨(nmB k).toArray⟩ 4 = k := by
  have h1 : k = 0 ∨ k = 1 ∨ k = 2 ∨ k = 3 := by omega
  rcases h1 with rfl | rfl | rfl | rfl <;> decide +kernel
theorem bytes_of {a : ByteArray} {l : List UInt8} (h : a.data.toList = l) : a = ⟨l.toArray⟩ := by
  rw [← h]
def PreS (s : ByteArray) (i : Nat) (R : List (Int × Int)) : Prop := ∀ L, isTxt s L → R = L.take i
theorem PreS.step {s : ByteArray} {i : Nat} {R : List (Int × Int)} (hp : PreS s i R) (hi : i + 1 < (splB s 10).length) {W : List ByteArray} (hW : splB ((splB s 10)[i]) 32 = W) {a b : ByteArray} (hW2 : W = [a, b]) : PreS s (i + 1) (R ++ [(kdTo a 4, rdS b.data.toList)]) := fun L h => by
  obtain ⟨h1, h2⟩ := qcs_at h
  have hl : i < L.length := by omega
  have hs := h.steps L[i] (List.getElem_mem hl)
  obtain ⟨a', b', e, ea, eb⟩ := spl_line (h2 i (by omega) hl) hs
  rw [hW, hW2] at e
  injection e with e1 e2
  injection e2 with e2 _
  subst e1 e2
  rw [List.take_succ_eq_append_getElem hl, hp L h, bytes_of ea, kd_name (stepB_z hs).1, eb, (okZ_facts (stepB_z hs).2).2.2.2.2]
theorem PreS.bad {s : ByteArray} {i : Nat} (hi : i + 1 < (splB s 10).length) {W : List ByteArray} (hW : splB ((splB s 10)[i]) 32 = W) (hb : W.length ≠ 2 ∨ ∃ a b, W = [a, b] ∧ 4 < b.size) : plB s = false ∧ plR s = [] := by
  refine plR_no fun ⟨L, h⟩ => ?_
  obtain ⟨h1, h2⟩ := qcs_at h
  have hl : i < L.length := by omega
  have hs := h.steps L[i] (List.getElem_mem hl)
  obtain ⟨a', b', e, ea, eb⟩ := spl_line (h2 i (by omega) hl) hs
  rw [hW] at e
  rcases hb with hb | ⟨a, b, hab, hb⟩
  · rw [e] at hb; exact hb rfl
  · rw [hab] at e
    injection e with e1 e2
    injection e2 with e2 _
    subst e1 e2
    have := (okZ_facts (stepB_z hs).2).2.2.1
    rw [← eb, ← Lib.size_eq] at this
    omega
theorem PreS.long {s : ByteArray} (h : 21 < (splB s 10).length) : plB s = false ∧ plR s = [] := by
  refine plR_no fun ⟨L, hL⟩ => ?_
  have := (qcs_at hL).1
  have := (logB_of hL.1).1
  omega
theorem PreS.yes {s : ByteArray} {i : Nat} {R : List (Int × Int)} (h : isTxt s R) (hp : PreS s i R) (hi : ∀ L, isTxt s L → L.length ≤ i) : plB s = true ∧ plR s = R := by
  have h1 := plR_yes ⟨R, h⟩
  have h2 := hp _ h1.2
  rw [List.take_of_length_le (hi _ h1.2)] at h2
  exact ⟨h1.1, h2.symm⟩
theorem PreS.no {s : ByteArray} {i : Nat} {R : List (Int × Int)} (hn : ¬ isTxt s R) (hp : PreS s i R) (hi : ∀ L, isTxt s L → L.length ≤ i) : plB s = false ∧ plR s = [] := by
  refine plR_no fun ⟨L, h⟩ => hn ?_
  have h2 := hp L h
  rw [List.take_of_length_le (hi L h)] at h2
  rw [h2]; exact h
theorem splTo_sz (s : ByteArray) (b : UInt8) : ∀ k, k ≤ s.size → ∀ p ∈ (splTo s b k).1, p.size ≤ s.size
  | 0, _, p, h => by simp [splTo] at h
  | k + 1, hk, p, h => by
    have ih := splTo_sz s b k (by omega)
    unfold splTo at h
    split at h
    · rcases List.mem_append.1 h with h | h
      · exact ih p h
      · simp at h
        rw [h]; simp; omega
    · exact ih p h
theorem splB_sz {s p : ByteArray} {b : UInt8} (h : p ∈ splB s b) : p.size ≤ s.size := by
  unfold splB at h
  rcases List.mem_append.1 h with h | h
  · exact splTo_sz s b s.size (Nat.le_refl _) p h
  · simp at h
    rw [h]; simp
theorem OwnsP.overN {T : TypeId} {ex : List Nat} {w w' : World} {base : Nat} {v : Value} {L : List (Int × Int)} (h : OwnsP T w base v L) (ho : Over ex w w') (hn : ∀ g, v.ownBlock = some g → g ∉ ex) : OwnsP T w' base v L := by
  refine ⟨h.1, ?_⟩
  rcases h.2 with h0 | ⟨g, cap, cur, hv, hg, hh, r⟩
  · exact .inl h0
  · refine .inr ⟨g, cap, cur, hv, hg, (ho.block g (Array.getElem?_eq_some_iff.1 hh).1 (hn g ?_)).trans hh, r⟩
    rw [hv]; rfl
theorem OwnsT.txb {w : World} {base : Nat} {v : Value} {xs : List ByteArray} (h : OwnsT w base v xs) (hn : xs ≠ []) : ∃ g cap, v = .slice (some ⟨g, 0, none⟩) xs.length cap ∧ xs.length ≤ cap ∧ TxB g xs w ∧ base ≤ g := by
  obtain ⟨a, cap, rfl, hcap, hf⟩ := h.form
  have hpos := List.length_pos_iff.2 hn
  obtain ⟨g, rfl, _, _, hg, hb⟩ := hf 0 hpos
  refine ⟨g, cap, rfl, hcap, ⟨hg, fun i hi => ?_⟩, hb⟩
  obtain ⟨g', e, q, _⟩ := hf i hi
  injection e with e
  injection e with e
  subst e
  exact q
set_option maxHeartbeats 4000000 in
set_option maxRecDepth 20000 in
theorem c_sParseLog (s : ByteArray) (hs : s.size ≤ 1048576) (w : World) (hE : PEnv w) : Calls Tryz.prog 23 #[.string s] w (PlPost s w) := by
  have hn := splB_len s 10
  have HS := Lib.hid (c_l1SplitT s 10 w (by omega))
  have HE0 := Lib.hid hE
  clear hE
  go_enter Tryz.func23, Tryz.ntmps23
  go_wp2_with fail
  refine HS.out.mono ?_
  rintro e w1 ⟨v1, rfl, ho1, hb1⟩
  obtain ⟨g, cap, rfl, hcap, hX, _⟩ := ho1.txb (fun h => by rw [h] at hn; simp at hn)
  have hE1 := Lib.hid (PEnv.below HE0.out hb1)
  have HX := Lib.hid hX
  have hg := hX.1
  have hz1 := hb1.size
  clear HS HE0 hX ho1
  obtain ⟨n, hnn⟩ : ∃ n, (splB s 10).length = n + 1 := ⟨(splB s 10).length - 1, by omega⟩
  rw [hnn] at hcap hn ⊢
  have HN := Lib.hid hnn
  clear hnn
  by_cases h21 : 21 < n + 1
  · have hno := Lib.hid (PreS.long (by rw [HN.out]; exact h21))
    have h21' : (21 : Int) < ((n + 1 : Nat) : Int) := by omega
    go_wp2
    refine bodyPost_ret (v := .tuple #[.slice none 0 0, .bool false]) (by simp [results, Tryz.results23, go_sem]) rfl ?_
    exact PlPost.no hno.out hb1
  · have h21' : ¬ (21 : Int) < ((n + 1 : Nat) : Int) := by omega
    have hj : ((n + 1 : Nat) : Int) - 1 = (n : Int) := by omega
    have hm0 : (0 : Int) ≤ (n : Int) := by omega
    have hmc : (n : Int) ≤ (cap : Int) := by omega
    go_wp2
    go_loopw [5, 23] (fun v iv wr => ∃ (i : Nat) (R : List (Int × Int)), i ≤ n ∧ iv = .int .i64 i ∧ Hid (PreS s i R) ∧ R.length ≤ i ∧ OwnsS wr w1.heap.size v R ∧ Below w1.heap.size w1 wr) (fun _ iv _ => n - (intOf iv).toNat)
    case atStart => exact ⟨0, [], by omega, rfl, Lib.hid (fun L _ => by simp), by simp, OwnsP.nil _ _ _, Below.refl _ _⟩
    case round =>
      obtain ⟨i, R, hi, rfl, hP, hR, ho, hb⟩ := hrel
      have hz := hb.size
      have hbw : Below w.heap.size w wr := below_step hb hz1 hb1
      by_cases hlt : i < n
      · have hi2 : i + 1 < (splB s 10).length := by rw [HN.out]; omega
        obtain ⟨p, hp⟩ : ∃ p, (splB s 10)[i] = p := ⟨_, rfl⟩
        have q1 : wr.cell? ⟨g, i, none⟩ = some (.string p) := by rw [← hp]; exact (TxB.below HX.out hb).2 i (by omega)
        have hps : p.size ≤ 1048576 := by rw [← hp]; exact Nat.le_trans (splB_sz (List.getElem_mem _)) hs
        have HSP := Lib.hid (c_l1SplitT p 32 wr (by omega))
        have hwl := splB_len p 32
        obtain ⟨X, hXw⟩ : ∃ X, splB p 32 = X := ⟨_, rfl⟩
        have HBad := Lib.hid (PreS.bad hi2 (W := X) (by rw [hp]; exact hXw))
        have HStep := Lib.hid (fun a b => hP.out.step hi2 (W := X) (by rw [hp]; exact hXw) (a := a) (b := b))
        rw [hXw] at HSP hwl
        have hsz : ∀ y ∈ X, y.size ≤ 1048576 := fun y hy => by rw [← hXw] at hy; exact Nat.le_trans (splB_sz hy) hps
        clear hp hP hXw
        go_wp2_with fail
        refine HSP.out.mono ?_
        rintro e w2 ⟨v2, rfl, ho2, hb2⟩
        have hR2 := ho.below hb2
        have hb12 := below_step hb2 hz hb
        have hbw2 := below_step hb2 hbw.size hbw
        clear HSP q1 ho hb2
        obtain ⟨g2, cap2, rfl, hcap2, hX2, _⟩ := ho2.txb (fun h => by rw [h] at hwl; simp at hwl)
        clear ho2
        by_cases h2 : X.length = 2
        · match X, h2 with
          | [a, b], _ =>
            have qa : w2.cell? ⟨g2, 0, none⟩ = some (.string a) := hX2.2 0 (by simp)
            have qb : w2.cell? ⟨g2, 1, none⟩ = some (.string b) := hX2.2 1 (by simp)
            have hg2 := hX2.1
            have hbs := hsz b (by simp)
            have has := hsz a (by simp)
            clear hX2 hsz hwl h2
            simp only [List.length_cons, List.length_nil, Nat.zero_add, Nat.reduceAdd] at hcap2 ⊢
            by_cases h4 : 4 < b.size
            · have hno := Lib.hid (HBad.out (.inr ⟨a, b, rfl, h4⟩))
              have h4' : (4 : Int) < (b.size : Int) := by omega
              clear HBad HStep
              go_wp2
              refine bodyPost_ret (v := .tuple #[.slice none 0 0, .bool false]) (by simp [results, Tryz.results23, go_sem]) rfl ?_
              exact PlPost.no hno.out hbw2
            · have h4' : ¬ (4 : Int) < (b.size : Int) := by omega
              have HP2 := Lib.hid (HStep.out a b rfl)
              have HSG := Lib.hid (c_ecSigned b (by omega) w2)
              clear HBad HStep
              generalize rdS b.data.toList = y at *
              go_wp2_with fail
              refine HSG.out.mono ?_
              rintro e w' ⟨rfl, rfl⟩
              clear HSG qb
              have kS := Blk.new w2 #[.int .i64 (-1), .int .i64 y] 44
              have hb3 : Below w2.heap.size w2 (w2.alloc (.cells #[.int .i64 (-1), .int .i64 y] 44)) := (Below.refl _ _).alloc (Nat.le_refl _) _
              have hR3 := hR2.below hb3
              have hRl := fun k hk => (hR2.lt k hk).2
              have hb13 := below_step hb3 hb12.size hb12
              have hbw3 := below_step hb3 hbw2.size hbw2
              have qa3 := (hb3.cell (p := ⟨g2, 0, none⟩) hg2).trans qa
              have hs12 := hb12.size
              go_upto_region 12 with (fail)
              generalize w2.alloc _ = w3 at *
              generalize hr9 : w2.heap.size = r9 at *
              have hk3 := kS.lt
              clear hb3 hR2 hb12 hbw2 qa
              have hg23 : g2 < r9 := by omega
              have hw19 : w1.heap.size ≤ r9 := by omega
              clear hr9
              go_wp2_with fail
              refine (c_tlNames w3).mono ?_
              rintro e w4 ⟨r, hr, rfl, hb4, kN⟩
              have hR4 := hR3.below hb4
              have hb14 := below_step hb4 hb13.size hb13
              have hbw4 := below_step hb4 hbw3.size hbw3
              have kS4 := kS.next hb4
              have qa4 := (hb4.cell (p := ⟨g2, 0, none⟩) (show g2 < w3.heap.size by omega)).trans qa3
              have HNM : Hid (∀ wr, Over [r9] w4 wr → ∀ j, j < 4 → wr.cell? ⟨r, j, none⟩ = some (.string (namesV.getD j ⟨#[]⟩))) := fun wr hO j hj => by
                have k9 := kN.over hO (by simp; omega)
                match j, hj with
                | 0, _ => exact k9.cell 0
                | 1, _ => exact k9.cell 1
                | 2, _ => exact k9.cell 2
                | 3, _ => exact k9.cell 3
              have hgr : g2 ≠ r9 := by omega
              have hg24 : g2 < w4.heap.size := by have := hb4.size; omega
              clear kS hR3 hb13 hbw3 qa3 kN hb4
              have hs14 := hb14.size
              have hr4 : r ≠ r9 := by omega
              have hw94 : r9 < w4.heap.size := kS4.lt
              go_wp2
              go_loopw [46] (fun jv wq => ∃ j : Nat, j ≤ 4 ∧ jv = .int .i64 j ∧ Blk r9 #[.int .i64 (kdTo a j), .int .i64 y] 44 wq ∧ Over [r9] w4 wq) (fun jv _ => 4 - (intOf jv).toNat)
              case atStart => exact ⟨0, by omega, rfl, kS4, Over.refl _ _⟩
              case round =>
                obtain ⟨j, hj4, rfl, kq, hO⟩ := hrel
                by_cases hjl : j < 4
                · have qn := HNM.out _ hO j hjl
                  have qa := (hO.cell (p := ⟨g2, 0, none⟩) hg24 (by simp; omega)).trans qa4
                  have hkS : Hid (kdTo a (j + 1) = if namesV.getD j ⟨#[]⟩ = a then (j : Int) else kdTo a j) := rfl
                  generalize namesV.getD j ⟨#[]⟩ = nm at *
                  cases hq : (nm.toList == a.toList)
                  · have hne := (Lib.bytes_beq_false_iff nm a).1 hq
                    have hk : Hid (kdTo a (j + 1) = kdTo a j) := hkS.out.trans (if_neg hne)
                    clear hkS hne
                    go_wp2
                    go_roundw
                    case rel => exact ⟨j + 1, by omega, by go_num, by rw [hk.out]; exact kq, hO⟩
                    case measure => simp [intOf]; omega
                  · have hne := (Lib.bytes_beq_iff nm a).1 hq
                    have hk : Hid (kdTo a (j + 1) = j) := hkS.out.trans (if_pos hne)
                    have k9 := kq.set 0 (.int .i64 j)
                    have hO9 := hO.setCell (p := ⟨r9, 0, none⟩) (.inr (by simp)) (.int .i64 j)
                    have z0 := kq.cell 0
                    have z1 := kq.frozen 0
                    have z2 := kq.lt
                    simp only [List.setIfInBounds_toArray, List.set_cons_zero, List.getElem?_toArray, List.getElem?_cons_zero] at k9 z0
                    clear hkS hne
                    go_wp2
                    go_roundw
                    case rel => exact ⟨j + 1, by omega, by go_num, by rw [hk.out]; exact k9, hO9⟩
                    case measure => simp [intOf]; omega
                · obtain rfl : j = 4 := by omega
                  have hR5 := hR4.overN hO (fun k hk hm => by
                    have h8 := hRl k hk
                    simp at hm
                    omega)
                  have hb15 : Below w1.heap.size w1 wr := hO.belowGe hb14 hs14 (by simp; omega)
                  have z0 : wr.cell? ⟨r9, 0, none⟩ = some (.int .i64 (kdTo a 4)) := kq.cell 0
                  have z1 : wr.cell? ⟨r9, 1, none⟩ = some (.int .i64 y) := kq.cell 1
                  have hs15 := hb15.size
                  clear HNM qa4 hR4 kS4 hO
                  generalize kdTo a 4 = kd at *
                  go_wp2_with (at_builtin; refine wpList_appS (p := (kd, y)) rfl _ _ rfl w1.heap.size _ R rfl hR5 rfl (by omega) hs15 ?_; intro v' w6 ho6 hb6 hg6)
                  have hb16 := hb15.trans hb6
                  clear hb6 hg6 hR5
                  go_wp2
                  go_roundw
                  case rel => exact ⟨i + 1, R ++ [(kd, y)], by omega, by go_num, HP2, by simp; omega, ho6, hb16⟩
                  case measure => simp [intOf]; omega
        · have hno := Lib.hid (HBad.out (.inl h2))
          have h2' : ((X.length : Int) == 2) = false := beq_eq_false_iff_ne.2 (by omega)
          have h2'' : ¬ (X.length : Int) = 2 := by omega
          clear HBad HStep hX2
          go_wp2
          refine bodyPost_ret (v := .tuple #[.slice none 0 0, .bool false]) (by simp [results, Tryz.results23, go_sem]) rfl ?_
          exact PlPost.no hno.out hbw2
      · obtain rfl : i = n := by omega
        have hall : ∀ L, isTxt s L → L.length ≤ i := fun L h => by
          have := (qcs_at h).1
          have := HN.out
          omega
        have HL := Lib.hid (c_tlLog w1.heap.size _ R (by omega) wr ho)
        cases hlb : logB R
        · have hno := Lib.hid (PreS.no (fun h => by rw [h.1] at hlb; cases hlb) hP.out hall)
          rw [hlb] at HL
          clear hP hlb ho
          go_wp2_with fail
          refine HL.out.mono ?_
          rintro e w2 ⟨rfl, hb2⟩
          have hbw2 := below_step hb2 hbw.size hbw
          go_wp2
          refine bodyPost_ret (v := .tuple #[.slice none 0 0, .bool false]) (by simp [results, Tryz.results23, go_sem]) rfl ?_
          exact PlPost.no hno.out hbw2
        · have hlf := logB_of hlb
          have HTX := Lib.hid (fun w2 (hb2 : Below wr.heap.size wr w2) => c_tlText w1.heap.size _ R (by omega) (fun k hk => stepB_bd (hlf.2 k hk)) _ _ _ _ (by decide) (Lib.hid c_tlNames) (Lib.hid fun y w hy _ => c_l1Int y (by omega) w) w2 ((PEnv.below (PEnv.below hE1.out hb) hb2).1) (ho.below hb2))
          rw [hlb] at HL
          have hT1 : ∀ h : txtL R = s, plB s = true ∧ plR s = R := fun h => PreS.yes ⟨hlb, h⟩ hP.out hall
          have hT2 : ∀ h : txtL R ≠ s, plB s = false ∧ plR s = [] := fun h => PreS.no (fun h9 => h h9.2) hP.out hall
          have hTs := txtL_size hlb
          replace HTX : Hid (∀ w2, Below wr.heap.size wr w2 → Calls Tryz.prog 31 #[_] w2 fun e w' => e = .returned (.string (txtL R)) ∧ Below w2.heap.size w2 w') := HTX
          generalize txtL R = T at *
          cases hq : (T.toList == s.toList)
          · have hno := Lib.hid (hT2 ((Lib.bytes_beq_false_iff T s).1 hq))
            clear hP hT1 hT2 hlb ho
            go_wp2_with fail
            refine HL.out.mono ?_
            rintro e w2 ⟨rfl, hb2⟩
            have hbw2 := below_step hb2 hbw.size hbw
            go_wp2_with fail
            refine (HTX.out w2 hb2).mono ?_
            rintro e w3 ⟨rfl, hb3⟩
            have hbw3 := below_step hb3 hbw2.size hbw2
            go_wp2
            refine bodyPost_ret (v := .tuple #[.slice none 0 0, .bool false]) (by simp [results, Tryz.results23, go_sem]) rfl ?_
            exact PlPost.no hno.out hbw3
          · have hyes := Lib.hid (hT1 ((Lib.bytes_beq_iff T s).1 hq))
            clear hP hT1 hT2 hlb
            obtain ⟨aa, cap4, rfl, _⟩ := OwnsP.form ho
            go_wp2_with fail
            refine HL.out.mono ?_
            rintro e w2 ⟨rfl, hb2⟩
            have hbw2 := below_step hb2 hbw.size hbw
            have ho2 := ho.below hb2
            go_wp2_with fail
            refine (HTX.out w2 hb2).mono ?_
            rintro e w3 ⟨rfl, hb3⟩
            have hbw3 := below_step hb3 hbw2.size hbw2
            have ho3 := ho2.below hb3
            go_wp2
            refine bodyPost_ret (v := .tuple #[.slice aa R.length cap4, .bool true]) (by simp [results, Tryz.results23, go_sem]) rfl ?_
            exact ⟨_, by rw [hyes.out.1], by rw [hyes.out.2]; exact ho3.le hz1, hbw3⟩
end Go.Proofs.YtpnpidepkfnofaaGreatDoor
