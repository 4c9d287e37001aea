/- Walks: a number times a list of wholes (the closure times of divisionWhole). -/
import Derived.Test.YtmlfkceafkhlaaaDoorDwT
namespace Go.Proofs.YtmlfkceafkhlaaaDoor
open Go.RowKit

set_option maxHeartbeats 2000000 in
set_option maxRecDepth 20000 in
theorem c_timesS (s : Nat) (k : Int) (Ns : List Int) (v : Value) (hk : -10000 < k ∧ k < 10000) (hne : Ns ≠ []) (hl : Ns.length ≤ 8) (hs : 1 ≤ s ∧ s ≤ 40000 ∧ s * (Ns.length + 1) + 1 ≤ 40000) (hN : ∀ x ∈ Ns, Sz s x) (w : World) (hv : RdWs w v Ns) :
    Calls Tryd.prog 35 #[.int .i64 k, v] w (WhP (k * pr Ns) w) := by
  have hkS : Sz s k := (Sz.of1 hk.1 hk.2).mono (by omega)
  have HP : Hid (∀ i, i ≤ (k :: Ns).length → (dg (pr ((k :: Ns).take i)).natAbs).length ≤ 40000) := pr_len (s := s) hs.2.2 fun x hx => by
    rcases List.mem_cons.1 hx with rfl | hx
    · exact hkS
    · exact hN x hx
  have HS : Hid (∀ i (h : i < (k :: Ns).length), (dg ((k :: Ns)[i]).natAbs).length ≤ 40000) := fun i h => by
    have : Sz s ((k :: Ns)[i]) := by
      rcases List.mem_cons.1 (List.getElem_mem h) with e | hx
      · rw [e]; exact hkS
      · exact hN _ hx
    exact Nat.le_trans this.len hs.2.1
  have hl1 : (k :: Ns).length ≤ 1000 := by simp; omega
  have hpr : Hid (pr (k :: Ns) = k * pr Ns) := rfl
  have HV := Lib.hid hv
  obtain ⟨M, ad, cap, rfl, hMl, _⟩ := hv.one hne
  have hMl8 : M.length ≤ 8 := by omega
  have HNE := Lib.hid hne
  have hk2 : -1000000000000000000 ≤ k ∧ k ≤ 1000000000000000000 := by omega
  clear hkS hN hv hne hk hs
  have kS := Blk.new w #[.bool false, .slice none 0 0] 31
  have hb0 : Below w.heap.size w (w.alloc (.cells #[.bool false, .slice none 0 0] 31)) := (Below.refl _ _).alloc (Nat.le_refl _) _
  have hW0 : (w.alloc (.cells #[.bool false, .slice none 0 0] 31)).heap.size = w.heap.size + 1 := by simp
  go_enter Tryd.func35, Tryd.ntmps35
  go_upto_region 1 with (fail)
  generalize w.alloc _ = W0 at *
  go_wp2_with fail
  refine (c_wholeOf k hk2 W0).mono ?_
  rintro e w1 ⟨v, rfl, hwh, hb1⟩
  obtain ⟨lk, rfl, hok, hlk⟩ := hwh.cell
  generalize hsk : decide (k < 0) = sk at *
  have HSK := Lib.hid hsk
  clear hsk
  have hw1 := hb1.size
  have hbW1 : Below w.heap.size w w1 := below_step hb1 (by omega) hb0
  have kS1 := kS.next hb1
  have HOK := Lib.hid hok
  have hRd : RdWs w1 (.slice (some ad) M.length cap) Ns := RdWs.below HV.out hbW1
  clear hok hwh kS hb0 hb1
  obtain ⟨M', ad', cap', hv', hMl', hadb, hc, h1c, hM'⟩ := hRd.one HNE.out
  injection hv' with e1 e2 e3
  injection e1 with e1
  subst e1 e3
  have HC := Lib.hid hc
  have H1C := Lib.hid h1c
  have HM := Lib.hid hM'
  have hMl9 : M'.length ≤ 8 := by omega
  have HML := Lib.hid hMl'
  rw [e2]
  clear hc h1c hM' hRd HV hMl hMl' e2 hMl8
  have hown : OwnsQ (w1.alloc (.cells #[.bool sk, lk] 31)) w1.heap.size (.slice (some ⟨w1.heap.size, 0, none⟩) 1 1) [(sk, lk)] := OwnsQ.new w1 w1.heap.size [(sk, lk)] (Nat.le_refl _) (by simp) (by simp)
  have hcw : ∀ j u, (cellsQ M')[j]? = some u → (w1.alloc (.cells #[.bool sk, lk] 31)).cell? (ad.add j) = some u := fun j u h => (((Below.refl w1.heap.size w1).alloc (Nat.le_refl _) _).cell (p := ad.add j) (by cases j <;> simpa [Addr.add] using hadb)).trans (HC.out j u h)
  have hszw : w1.heap.size ≤ (w1.alloc (.cells #[.bool sk, lk] 31)).heap.size := by simp
  go_wp2_with (at_builtin; refine wpList_appQ rfl _ _ rfl w1.heap.size (.slice (some ⟨w1.heap.size, 0, none⟩) 1 1) [(sk, lk)] M' rfl hown ad cap rfl hcw H1C.out (by simp; omega) hszw ?_; intro v' w2 ho2 hg2)
  have hb2 : Below w1.heap.size w1 w2 := ((Below.refl w1.heap.size w1).alloc (Nat.le_refl _) _).grown hg2 (by simp) (fun k hk => by
    have h5 : w1.heap.size = k := by simpa [Value.ownBlock] using hk
    omega)
  have hb3 : Below w.heap.size w w2 := below_step hb2 hbW1.size hbW1
  have kS2 := kS1.next hb2
  have hrd : Hid (RdWs w2 v' (k :: Ns)) := ho2.rds (by simp only [List.length_append, List.length_cons, List.length_nil, HML.out]; omega) fun i h h' => by
    cases i with
    | zero => exact ⟨HSK.out.symm, HOK.out.1.below hb2⟩
    | succ i =>
      have h3 : i < M'.length := by
        have h4 := h
        simp only [List.length_append, List.length_cons, List.length_nil] at h4
        omega
      obtain ⟨m1, m2⟩ := HM.out i h3 (by simpa using h')
      exact ⟨m1, m2.below hb2⟩
  clear ho2 hg2 hown hcw hszw kS1 hbW1 hw1 hb2
  go_wp2_with fail
  refine (c_productWholes (k :: Ns) v' hl1 HS.out HP.out w2 hrd.out).mono ?_
  rintro e w3 ⟨v, rfl, hwh, hb4⟩
  obtain ⟨lv, rfl, ho9⟩ := hwh
  obtain ⟨s9, c9, rfl, _⟩ := id ho9.1
  have kS3 := kS2.next hb4
  have hb5 : Below w.heap.size w w3 := below_step hb4 hb3.size hb3
  rw [hpr.out] at ho9 ⊢
  generalize hK : k * pr Ns = K at *
  clear hK hpr
  have k9 := (kS3.set 0 (.bool (decide (K < 0)))).set 1 (.slice s9 (dg K.natAbs).length c9)
  have hlt9 : w.heap.size < w2.heap.size := kS2.lt
  have z0 := kS3.frozen 0
  have z1 := kS3.frozen 1
  have x0 : w3.cell? ⟨w.heap.size, 0, none⟩ = some (.bool false) := kS3.cell 0
  have x1 : w3.cell? ⟨w.heap.size, 1, none⟩ = some (.slice none 0 0) := kS3.cell 1
  have hB9 : Below w.heap.size w ((w3.setCell ⟨w.heap.size, 0, none⟩ (.bool (decide (K < 0)))).setCell ⟨w.heap.size, 1, none⟩ (.slice s9 (dg K.natAbs).length c9)) := (hb5.setCell (Nat.le_refl _) _).setCell (Nat.le_refl _) _
  have ho8 := (ho9.set2 (S := w.heap.size) hlt9 (.bool (decide (K < 0))) (.slice s9 (dg K.natAbs).length c9)).le (base' := w.heap.size) (by omega)
  clear ho9 kS2 kS3 hb3 hb4 hb5
  go_wp2
  generalize (World.setCell (World.setCell _ _ _) _ _) = w9 at hB9 k9 ho8 ⊢
  have q0 : w9.cell? ⟨w.heap.size, 0, none⟩ = some (.bool (decide (K < 0))) := k9.cell 0
  have q1 : w9.cell? ⟨w.heap.size, 1, none⟩ = some (.slice s9 (dg K.natAbs).length c9) := k9.cell 1
  refine bodyPost_ret (v := .agg #[.bool (decide (K < 0)), .slice s9 (dg K.natAbs).length c9]) (by simp [results, Tryd.results35, go_sem, q0, q1]) rfl ?_
  exact ⟨_, rfl, ⟨_, rfl, ho8⟩, hB9⟩
theorem c_times (k : Int) (Ns : List Int) (v : Value) (hk : -10000 < k ∧ k < 10000) (hne : Ns ≠ []) (hl : Ns.length ≤ 8) (hN : ∀ x ∈ Ns, Sz 3000 x) (w : World) (hv : RdWs w v Ns) :
    Calls Tryd.prog 35 #[.int .i64 k, v] w (WhP (k * pr Ns) w) := c_timesS 3000 k Ns v hk hne hl (by omega) hN w hv
end Go.Proofs.YtmlfkceafkhlaaaDoor
