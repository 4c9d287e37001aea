/- Walks: wholes made of digits (trimmed, bgMake). -/
import Derived.Test.YtgjdgcmmlfmhmaaGreatDoorBgP
import Derived.Test.YtgjdgcmmlfmhmaaGreatDoorDvR
import Derived.Deep.Cut
namespace Go.Proofs.YtgjdgcmmlfmhmaaGreatDoor
open Go.RowKit

/-- a slice that reads as a list of numbers, its length within its capacity -/
def RdL (w : World) (v : Value) (L : List Int) : Prop := ∃ (a : Option Addr) (cap : Nat), v = .slice a L.length cap ∧ L.length ≤ cap ∧ ∀ i, i < L.length → ∃ g o, a = some ⟨g, o, none⟩ ∧ w.cell? ⟨g, o + i, none⟩ = some (.int .i64 (L[i]?.getD 0)) ∧ g < w.heap.size
theorem RdL.rd {w : World} {v : Value} {L : List Int} (h : RdL w v L) : RdI w v L := by
  obtain ⟨a, cap, h1, _, h2⟩ := h
  exact ⟨a, cap, h1, h2⟩
theorem RdL.below {w w1 : World} {v : Value} {L : List Int} (h : RdL w v L) (hb : Below w.heap.size w w1) : RdL w1 v L := by
  obtain ⟨a, cap, hv, hm, hc⟩ := h
  refine ⟨a, cap, hv, hm, fun i hi => ?_⟩
  obtain ⟨g, o, ha, h1, h2⟩ := hc i hi
  exact ⟨g, o, ha, (hb.cell (p := ⟨g, o + i, none⟩) h2).trans h1, Nat.lt_of_lt_of_le h2 hb.size⟩
theorem RdL.take {w : World} {a : Option Addr} {cap : Nat} {L : List Int} (h : RdL w (.slice a L.length cap) L) {k : Nat} (hk : k ≤ L.length) : RdL w (.slice a k cap) (L.take k) := by
  obtain ⟨a', cap', hv, hm, hc⟩ := h
  injection hv with h1 _ h3
  subst h1 h3
  have hl : (L.take k).length = k := by simp; omega
  refine ⟨a, cap, by rw [hl], by omega, fun i hi => ?_⟩
  rw [hl] at hi
  obtain ⟨g, o, ha, q1, q2⟩ := hc i (by omega)
  exact ⟨g, o, ha, by rw [q1, List.getElem?_take, if_pos hi], q2⟩
theorem RdL.below0 {n : Nat} {w w1 : World} {v : Value} {L : List Int} (h : RdL w v L) (hb : Below n w w1) (hn : n = w.heap.size := by rfl) : RdL w1 v L := h.below (hn ▸ hb)
theorem OwnsI.rdL {w : World} {base : Nat} {v : Value} {L : List Int} (h : OwnsI w base v L) : RdL w v L := by
  obtain ⟨a, cap, hv, hc⟩ := h.form
  refine ⟨a, cap, hv, ?_, fun i hi => ?_⟩
  · rcases h.2 with ⟨h0, hn⟩ | ⟨g, cap', cur, hv', _, _, hnc, _⟩
    · rw [hv] at h0
      injection h0 with _ h1 h2
      omega
    · rw [hv] at hv'
      injection hv' with _ _ h3
      omega
  · obtain ⟨g, ha, h1, h2, _⟩ := hc i hi
    exact ⟨g, 0, ha, by rw [Nat.zero_add]; exact h1, h2⟩
/-- a list that reads as L, its block new since base and its own where there is one -/
def RdO (w : World) (base : Nat) (v : Value) (L : List Int) : Prop := RdL w v L ∧ (L ≠ [] → OwnsI w base v L)
theorem RdO.le {w : World} {base base' : Nat} {v : Value} {L : List Int} (h : RdO w base v L) (hb : base' ≤ base) : RdO w base' v L := ⟨h.1, fun hn => (h.2 hn).le hb⟩
/-- what is stored into an elder block -/
theorem RdO.set2 {w : World} {base S : Nat} {v : Value} {L : List Int} (h : RdO w base v L) (hS : S < base) (x y : Value) : RdO ((w.setCell ⟨S, 0, none⟩ x).setCell ⟨S, 1, none⟩ y) base v L := by
  by_cases hn : L = []
  · subst hn
    obtain ⟨a, cap, h1, h2, _⟩ := h.1
    exact ⟨⟨a, cap, h1, h2, fun i hi => by simp at hi⟩, fun h => absurd rfl h⟩
  · have ho := h.2 hn
    have h3 := OwnsI.over ho (((Over.refl [S] w).setCell (p := ⟨S, 0, none⟩) (.inr (by simp)) x).setCell (p := ⟨S, 1, none⟩) (.inr (by simp)) y) (fun g hg => by have := ho.lt g hg; simp; omega)
    exact ⟨h3.rdL, fun _ => h3⟩
theorem isEmpty_dec {l : List Int} {k : Nat} (h : l.length = k) : l.isEmpty = decide (k = 0) := by
  subst h
  cases l <;> simp
/-- a whole with the value N -/
def Wh (base : Nat) (N : Int) (v : Value) (w : World) : Prop := ∃ lv, v = .agg #[.bool (decide (N < 0)), lv] ∧ RdO w base lv (dg N.natAbs)
theorem Wh.closed (base : Nat) (N : Int) (v : Value) : Closed (Wh base N v) := fun _ _ ⟨lv, h1, h2, h3⟩ hb => ⟨lv, h1, h2.below hb, fun h => (h3 h).below hb⟩
theorem Wh.le {base base' : Nat} {N : Int} {v : Value} {w : World} (h : Wh base N v w) (hb : base' ≤ base) : Wh base' N v w := by
  obtain ⟨lv, h1, h2, h3⟩ := h
  exact ⟨lv, h1, h2, fun hn => (h3 hn).le hb⟩
def TrP (neg : Bool) (L : List Int) (w : World) (e : Ending) (w' : World) : Prop := ∃ lv, e = .returned (.agg #[.bool (neg && !(tr L).isEmpty), lv]) ∧ RdO w' w.heap.size lv (tr L) ∧ Below w.heap.size w w'
theorem c_cloneL (v : Value) (L : List Int) (hL : L.length ≤ 100000000) (w : World) (hr : RdL w v L) :
    Calls Tryz.prog 39 #[v] w fun e w' => ∃ v', e = .returned v' ∧ RdO w' w.heap.size v' L ∧ Below w.heap.size w w' := by
  by_cases hx : L = []
  · subst hx
    obtain ⟨a, cap, rfl, _, _⟩ := hr
    have q22 : ∀ (w : World) (a : Option Addr) (n c n' c' : Nat), (binOp .eql 29 (.slice a n c) (.slice none n' c')).run Tryz.prog w = .ok (.bool a.isNone) w := fun w a n c n' c' => Lib.run_eql_slice_nil w _ _ a n c n' c' Tryz.underlying29
    cases a with
    | none =>
      go_enter Tryz.func39, Tryz.ntmps39
      go_wp2
      go_ret
      exact ⟨_, rfl, ⟨⟨none, 0, rfl, Nat.le_refl _, fun i hi => by simp at hi⟩, fun h => absurd rfl h⟩, Below.refl _ _⟩
    | some a =>
      go_enter Tryz.func39, Tryz.ntmps39
      go_wp2
      go_ret
      exact ⟨_, rfl, ⟨⟨_, 0, rfl, Nat.le_refl _, fun i hi => by simp at hi⟩, fun h => absurd rfl h⟩, (Below.refl _ _).alloc (Nat.le_refl _) _⟩
  · exact (c_cloneI v L hx hL w hr.rd).mono fun e w' ⟨v', h1, h2, h3⟩ => ⟨v', h1, ⟨h2.rdL, fun _ => h2⟩, h3⟩
set_option maxHeartbeats 1000000 in
theorem c_trimmed (neg : Bool) (v : Value) (L : List Int) (hL : L.length ≤ 100000000) (w : World) (hr : RdL w v L) :
    Calls Tryz.prog 102 #[.bool neg, v] w (TrP neg L w) := by
  have kS := Blk.new w #[.bool false, .slice none 0 0] 37
  have hr0 := hr.below (w1 := w.alloc (.cells #[.bool false, .slice none 0 0] 37)) ((Below.refl _ _).alloc (Nat.le_refl _) _)
  have hb0 : Below w.heap.size w (w.alloc (.cells #[.bool false, .slice none 0 0] 37)) := (Below.refl _ _).alloc (Nat.le_refl _) _
  obtain ⟨a, cap, rfl, hcap, hf⟩ := hr
  have HR := Lib.hid hr0
  go_enter Tryz.func102, Tryz.ntmps102
  go_upto_region 1 with (fail)
  generalize w.alloc _ = W at *
  go_loopw [1] (fun l wr => ∃ k : Nat, k ≤ L.length ∧ l = .slice a k cap ∧ Hid (tr (L.take k) = tr L) ∧ wr = W) (fun l _ => match l with | .slice _ n _ => n | _ => 0)
  case atStart => exact ⟨L.length, Nat.le_refl _, rfl, Lib.hid (by rw [List.take_length]), rfl⟩
  case round =>
    obtain ⟨k, hk, rfl, hT, rfl⟩ := hrel
    have hlk : (L.take k).length = k := by simp; omega
    have hrk := HR.out.take hk
    cases k with
    | zero =>
      have hE : tr L = L.take 0 := by rw [← hT.out]; rfl
      cases neg
      · go_wp2_with fail
        refine (c_cloneL _ (L.take 0) (by rw [hlk]; omega) _ hrk).mono ?_
        rintro e w1 ⟨lv, rfl, ho, hb1⟩
        obtain ⟨sl, scap, rfl, _⟩ := id ho.1
        have kS1 := kS.next hb1
        have c0 : w1.cell? ⟨w.heap.size, 0, none⟩ = some (.bool false) := kS1.cell 0
        have c1 : w1.cell? ⟨w.heap.size, 1, none⟩ = some (.slice none 0 0) := kS1.cell 1
        have z0 := kS1.frozen 0
        have z1 := kS1.frozen 1
        have k9 := (kS1.set 0 (.bool false)).set 1 (.slice sl (L.take 0).length scap)
        have hbb := below_step hb1 hb0.size hb0
        have hS : w.heap.size ≤ w.heap.size := Nat.le_refl _
        have hB9 : Below w.heap.size w ((w1.setCell ⟨w.heap.size, 0, none⟩ (.bool false)).setCell ⟨w.heap.size, 1, none⟩ (.slice sl (L.take 0).length scap)) := (hbb.setCell hS _).setCell hS _
        have ho9 := ho.set2 (S := w.heap.size) kS.lt (.bool false) (.slice sl (L.take 0).length scap)
        replace ho9 : RdO _ w.heap.size _ _ := ho9.le (Nat.le_of_lt kS.lt)
        rw [hlk] at k9 hB9 ho9 ⊢
        rw [← hE] at ho9
        have hE2 : (tr L).isEmpty = decide (0 = 0) := by rw [hE, isEmpty_dec hlk]
        clear hE ho
        go_wp2
        generalize (World.setCell (World.setCell _ _ _) _ _) = w9 at hB9 k9 ho9 ⊢
        have q0 : w9.cell? ⟨w.heap.size, 0, none⟩ = some (.bool false) := k9.cell 0
        have q1 : w9.cell? ⟨w.heap.size, 1, none⟩ = some (.slice sl (0) scap) := k9.cell 1
        refine bodyPost_ret (v := .agg #[.bool false, .slice sl (0) scap]) (by simp [results, Tryz.results102, go_sem, q0, q1]) rfl ?_
        exact ⟨_, by rw [hE2]; simp, ho9, hB9⟩
      · go_wp2_with fail
        refine (c_cloneL _ (L.take 0) (by rw [hlk]; omega) _ hrk).mono ?_
        rintro e w1 ⟨lv, rfl, ho, hb1⟩
        obtain ⟨sl, scap, rfl, _⟩ := id ho.1
        have kS1 := kS.next hb1
        have c0 : w1.cell? ⟨w.heap.size, 0, none⟩ = some (.bool false) := kS1.cell 0
        have c1 : w1.cell? ⟨w.heap.size, 1, none⟩ = some (.slice none 0 0) := kS1.cell 1
        have z0 := kS1.frozen 0
        have z1 := kS1.frozen 1
        have k9 := (kS1.set 0 (.bool false)).set 1 (.slice sl (L.take 0).length scap)
        have hbb := below_step hb1 hb0.size hb0
        have hS : w.heap.size ≤ w.heap.size := Nat.le_refl _
        have hB9 : Below w.heap.size w ((w1.setCell ⟨w.heap.size, 0, none⟩ (.bool false)).setCell ⟨w.heap.size, 1, none⟩ (.slice sl (L.take 0).length scap)) := (hbb.setCell hS _).setCell hS _
        have ho9 := ho.set2 (S := w.heap.size) kS.lt (.bool false) (.slice sl (L.take 0).length scap)
        replace ho9 : RdO _ w.heap.size _ _ := ho9.le (Nat.le_of_lt kS.lt)
        rw [hlk] at k9 hB9 ho9 ⊢
        rw [← hE] at ho9
        have hE2 : (tr L).isEmpty = decide (0 = 0) := by rw [hE, isEmpty_dec hlk]
        clear hE ho
        go_wp2
        generalize (World.setCell (World.setCell _ _ _) _ _) = w9 at hB9 k9 ho9 ⊢
        have q0 : w9.cell? ⟨w.heap.size, 0, none⟩ = some (.bool false) := k9.cell 0
        have q1 : w9.cell? ⟨w.heap.size, 1, none⟩ = some (.slice sl (0) scap) := k9.cell 1
        refine bodyPost_ret (v := .agg #[.bool false, .slice sl (0) scap]) (by simp [results, Tryz.results102, go_sem, q0, q1]) rfl ?_
        exact ⟨_, by rw [hE2]; simp, ho9, hB9⟩
    | succ k =>
      have hlt : k < L.length := by omega
      obtain ⟨a', cap', hv, _, hc⟩ := HR.out
      injection hv with e1 _ e3
      subst e1 e3
      obtain ⟨g, o, rfl, p1, hg⟩ := hc k hlt
      have ey : L[k]?.getD 0 = L[k] := by simp [hlt]
      rw [ey] at p1
      have i0 : (0 : Int) ≤ (k : Int) := by omega
      have i1 : (0 : Int) < ((k + 1 : Nat) : Int) := by omega
      have i2 : ((k + 1 : Nat) : Int) - 1 = k := by omega
      have i3 : (k : Int) ≤ (cap : Int) := by omega
      have i4 : (k : Int) < ((k + 1 : Nat) : Int) := by omega
      have i5 : (k : Int) < (k : Int) + 1 := by omega
      have i6 : (0 : Int) < (k : Int) + 1 := by omega
      clear hc hr0
      by_cases hy : L[k] = 0
      · have hT2 : Hid (tr (L.take k) = tr L) := by show _ = _; rw [← hT.out, tr_take hlt hy]
        rw [hy] at p1
        clear hT hy ey hlk hrk
        go_wp2
        go_roundw
        case rel => exact ⟨k, by omega, rfl, hT2, by first | rfl | trivial⟩
        case measure => simp
      · have hE : tr L = L.take (k + 1) := by rw [← hT.out, tr_done hlt hy]
        generalize L[k] = y at *
        cases neg
        · go_wp2_with fail
          refine (c_cloneL _ (L.take (k + 1)) (by rw [hlk]; omega) _ hrk).mono ?_
          rintro e w1 ⟨lv, rfl, ho, hb1⟩
          obtain ⟨sl, scap, rfl, _⟩ := id ho.1
          have kS1 := kS.next hb1
          have c0 : w1.cell? ⟨w.heap.size, 0, none⟩ = some (.bool false) := kS1.cell 0
          have c1 : w1.cell? ⟨w.heap.size, 1, none⟩ = some (.slice none 0 0) := kS1.cell 1
          have z0 := kS1.frozen 0
          have z1 := kS1.frozen 1
          have k9 := (kS1.set 0 (.bool false)).set 1 (.slice sl (L.take (k + 1)).length scap)
          have hbb := below_step hb1 hb0.size hb0
          have hS : w.heap.size ≤ w.heap.size := Nat.le_refl _
          have hB9 : Below w.heap.size w ((w1.setCell ⟨w.heap.size, 0, none⟩ (.bool false)).setCell ⟨w.heap.size, 1, none⟩ (.slice sl (L.take (k + 1)).length scap)) := (hbb.setCell hS _).setCell hS _
          have ho9 := ho.set2 (S := w.heap.size) kS.lt (.bool false) (.slice sl (L.take (k + 1)).length scap)
          replace ho9 : RdO _ w.heap.size _ _ := ho9.le (Nat.le_of_lt kS.lt)
          rw [hlk] at k9 hB9 ho9 ⊢
          rw [← hE] at ho9
          have hE2 : (tr L).isEmpty = decide ((k + 1) = 0) := by rw [hE, isEmpty_dec hlk]
          clear hE ho
          go_wp2
          generalize (World.setCell (World.setCell _ _ _) _ _) = w9 at hB9 k9 ho9 ⊢
          have q0 : w9.cell? ⟨w.heap.size, 0, none⟩ = some (.bool false) := k9.cell 0
          have q1 : w9.cell? ⟨w.heap.size, 1, none⟩ = some (.slice sl ((k + 1)) scap) := k9.cell 1
          refine bodyPost_ret (v := .agg #[.bool false, .slice sl ((k + 1)) scap]) (by simp [results, Tryz.results102, go_sem, q0, q1]) rfl ?_
          exact ⟨_, by rw [hE2]; simp, ho9, hB9⟩
        · go_wp2_with fail
          refine (c_cloneL _ (L.take (k + 1)) (by rw [hlk]; omega) _ hrk).mono ?_
          rintro e w1 ⟨lv, rfl, ho, hb1⟩
          obtain ⟨sl, scap, rfl, _⟩ := id ho.1
          have kS1 := kS.next hb1
          have c0 : w1.cell? ⟨w.heap.size, 0, none⟩ = some (.bool false) := kS1.cell 0
          have c1 : w1.cell? ⟨w.heap.size, 1, none⟩ = some (.slice none 0 0) := kS1.cell 1
          have z0 := kS1.frozen 0
          have z1 := kS1.frozen 1
          have k9 := (kS1.set 0 (.bool true)).set 1 (.slice sl (L.take (k + 1)).length scap)
          have hbb := below_step hb1 hb0.size hb0
          have hS : w.heap.size ≤ w.heap.size := Nat.le_refl _
          have hB9 : Below w.heap.size w ((w1.setCell ⟨w.heap.size, 0, none⟩ (.bool true)).setCell ⟨w.heap.size, 1, none⟩ (.slice sl (L.take (k + 1)).length scap)) := (hbb.setCell hS _).setCell hS _
          have ho9 := ho.set2 (S := w.heap.size) kS.lt (.bool true) (.slice sl (L.take (k + 1)).length scap)
          replace ho9 : RdO _ w.heap.size _ _ := ho9.le (Nat.le_of_lt kS.lt)
          rw [hlk] at k9 hB9 ho9 ⊢
          rw [← hE] at ho9
          have hE2 : (tr L).isEmpty = decide ((k + 1) = 0) := by rw [hE, isEmpty_dec hlk]
          clear hE ho
          go_wp2
          generalize (World.setCell (World.setCell _ _ _) _ _) = w9 at hB9 k9 ho9 ⊢
          have q0 : w9.cell? ⟨w.heap.size, 0, none⟩ = some (.bool true) := k9.cell 0
          have q1 : w9.cell? ⟨w.heap.size, 1, none⟩ = some (.slice sl ((k + 1)) scap) := k9.cell 1
          refine bodyPost_ret (v := .agg #[.bool true, .slice sl ((k + 1)) scap]) (by simp [results, Tryz.results102, go_sem, q0, q1]) rfl ?_
          exact ⟨_, by rw [hE2]; simp, ho9, hB9⟩
theorem c_ownL (v : Value) (L : List Int) (hL : L.length ≤ 100000000) (w : World) (hr : RdL w v L) :
    Calls Tryz.prog 116 #[v] w fun e w' => ∃ v', e = .returned v' ∧ RdO w' w.heap.size v' L ∧ Below w.heap.size w w' := by
  by_cases hx : L = []
  · subst hx
    obtain ⟨a, cap, rfl, _, _⟩ := hr
    cases a with
    | none =>
      go_enter Tryz.func116, Tryz.ntmps116
      go_wp2
      go_ret
      exact ⟨_, rfl, ⟨⟨_, 0, rfl, Nat.le_refl _, fun i hi => by simp at hi⟩, fun h => absurd rfl h⟩, (Below.refl _ _).alloc (Nat.le_refl _) _⟩
    | some a =>
      go_enter Tryz.func116, Tryz.ntmps116
      go_wp2
      go_ret
      exact ⟨_, rfl, ⟨⟨_, 0, rfl, Nat.le_refl _, fun i hi => by simp at hi⟩, fun h => absurd rfl h⟩, (Below.refl _ _).alloc (Nat.le_refl _) _⟩
  · obtain ⟨a, cap, rfl, _, hc⟩ := hr
    obtain ⟨g, o, rfl, _, _⟩ := hc 0 (List.length_pos_iff.2 hx)
    have hc' : ∀ i, i < L.length → w.cell? ⟨g, o + i, none⟩ = some (.int .i64 (L[i]?.getD 0)) ∧ g < w.heap.size := by
      intro i hi
      obtain ⟨g', o', e, h1, h2⟩ := hc i hi
      injection e with e
      injection e with e1 e2
      subst e1 e2
      exact ⟨h1, h2⟩
    have HC := Lib.hid hc'
    clear hc hc'
    go_enter Tryz.func116, Tryz.ntmps116
    go_wp2_with (at_builtin; refine wpList_app_all rfl _ _ rfl L g o cap rfl rfl HC.out (by omega) ?_; intro v' w1 hown1 hb1)
    go_wp2
    go_ret
    exact ⟨_, rfl, ⟨hown1.rdL, fun _ => hown1⟩, hb1⟩
set_option maxHeartbeats 1000000 in
theorem c_bgMake (neg : Bool) (v : Value) (L : List Int) (hL : L.length ≤ 100000000) (w : World) (hr : RdL w v L) :
    Calls Tryz.prog 89 #[.bool neg, v] w (TrP neg L w) := by
  have kS := Blk.new w #[.bool false, .slice none 0 0] 37
  have hr0 := hr.below (w1 := w.alloc (.cells #[.bool false, .slice none 0 0] 37)) ((Below.refl _ _).alloc (Nat.le_refl _) _)
  have hb0 : Below w.heap.size w (w.alloc (.cells #[.bool false, .slice none 0 0] 37)) := (Below.refl _ _).alloc (Nat.le_refl _) _
  obtain ⟨a, cap, rfl, hcap, hf⟩ := hr
  have HR := Lib.hid hr0
  go_enter Tryz.func89, Tryz.ntmps89
  go_upto_region 1 with (fail)
  generalize w.alloc _ = W at *
  go_wp2
  go_loopw [5] (fun n wr => ∃ k : Nat, k ≤ L.length ∧ n = .int .i64 k ∧ Hid (tr (L.take k) = tr L) ∧ wr = W) (fun n _ => (intOf n).toNat)
  case atStart => exact ⟨L.length, Nat.le_refl _, rfl, Lib.hid (by rw [List.take_length]), rfl⟩
  case round =>
    obtain ⟨k, hk, rfl, hT, rfl⟩ := hrel
    have hlk : (L.take k).length = k := by simp; omega
    have hrk := HR.out.take hk
    have i9 : (k : Int) ≤ (cap : Int) := by omega
    have i8 : (0 : Int) ≤ (k : Int) := by omega
    cases k with
    | zero =>
      have hE : tr L = L.take 0 := by rw [← hT.out]; rfl
      cases neg
      · go_wp2_with fail
        refine (c_ownL _ (L.take 0) (by rw [hlk]; omega) _ hrk).mono ?_
        rintro e w1 ⟨lv, rfl, ho, hb1⟩
        obtain ⟨sl, scap, rfl, _⟩ := id ho.1
        have kS1 := kS.next hb1
        have c0 : w1.cell? ⟨w.heap.size, 0, none⟩ = some (.bool false) := kS1.cell 0
        have c1 : w1.cell? ⟨w.heap.size, 1, none⟩ = some (.slice none 0 0) := kS1.cell 1
        have z0 := kS1.frozen 0
        have z1 := kS1.frozen 1
        have k9 := (kS1.set 0 (.bool false)).set 1 (.slice sl (L.take 0).length scap)
        have hbb := below_step hb1 hb0.size hb0
        have hS : w.heap.size ≤ w.heap.size := Nat.le_refl _
        have hB9 : Below w.heap.size w ((w1.setCell ⟨w.heap.size, 0, none⟩ (.bool false)).setCell ⟨w.heap.size, 1, none⟩ (.slice sl (L.take 0).length scap)) := (hbb.setCell hS _).setCell hS _
        have ho9 := ho.set2 (S := w.heap.size) kS.lt (.bool false) (.slice sl (L.take 0).length scap)
        replace ho9 : RdO _ w.heap.size _ _ := ho9.le (Nat.le_of_lt kS.lt)
        rw [hlk] at k9 hB9 ho9 ⊢
        rw [← hE] at ho9
        have hE2 : (tr L).isEmpty = decide (0 = 0) := by rw [hE, isEmpty_dec hlk]
        clear hE ho
        go_wp2
        generalize (World.setCell (World.setCell _ _ _) _ _) = w9 at hB9 k9 ho9 ⊢
        have q0 : w9.cell? ⟨w.heap.size, 0, none⟩ = some (.bool false) := k9.cell 0
        have q1 : w9.cell? ⟨w.heap.size, 1, none⟩ = some (.slice sl (0) scap) := k9.cell 1
        refine bodyPost_ret (v := .agg #[.bool false, .slice sl (0) scap]) (by simp [results, Tryz.results89, go_sem, q0, q1]) rfl ?_
        exact ⟨_, by rw [hE2]; simp, ho9, hB9⟩
      · go_wp2_with fail
        refine (c_ownL _ (L.take 0) (by rw [hlk]; omega) _ hrk).mono ?_
        rintro e w1 ⟨lv, rfl, ho, hb1⟩
        obtain ⟨sl, scap, rfl, _⟩ := id ho.1
        have kS1 := kS.next hb1
        have c0 : w1.cell? ⟨w.heap.size, 0, none⟩ = some (.bool false) := kS1.cell 0
        have c1 : w1.cell? ⟨w.heap.size, 1, none⟩ = some (.slice none 0 0) := kS1.cell 1
        have z0 := kS1.frozen 0
        have z1 := kS1.frozen 1
        have k9 := (kS1.set 0 (.bool false)).set 1 (.slice sl (L.take 0).length scap)
        have hbb := below_step hb1 hb0.size hb0
        have hS : w.heap.size ≤ w.heap.size := Nat.le_refl _
        have hB9 : Below w.heap.size w ((w1.setCell ⟨w.heap.size, 0, none⟩ (.bool false)).setCell ⟨w.heap.size, 1, none⟩ (.slice sl (L.take 0).length scap)) := (hbb.setCell hS _).setCell hS _
        have ho9 := ho.set2 (S := w.heap.size) kS.lt (.bool false) (.slice sl (L.take 0).length scap)
        replace ho9 : RdO _ w.heap.size _ _ := ho9.le (Nat.le_of_lt kS.lt)
        rw [hlk] at k9 hB9 ho9 ⊢
        rw [← hE] at ho9
        have hE2 : (tr L).isEmpty = decide (0 = 0) := by rw [hE, isEmpty_dec hlk]
        clear hE ho
        go_wp2
        generalize (World.setCell (World.setCell _ _ _) _ _) = w9 at hB9 k9 ho9 ⊢
        have q0 : w9.cell? ⟨w.heap.size, 0, none⟩ = some (.bool false) := k9.cell 0
        have q1 : w9.cell? ⟨w.heap.size, 1, none⟩ = some (.slice sl (0) scap) := k9.cell 1
        refine bodyPost_ret (v := .agg #[.bool false, .slice sl (0) scap]) (by simp [results, Tryz.results89, go_sem, q0, q1]) rfl ?_
        exact ⟨_, by rw [hE2]; simp, ho9, hB9⟩
    | succ k =>
      have hlt : k < L.length := by omega
      obtain ⟨a', cap', hv, _, hc⟩ := HR.out
      injection hv with e1 _ e3
      subst e1 e3
      obtain ⟨g, o, rfl, p1, hg⟩ := hc k hlt
      have ey : L[k]?.getD 0 = L[k] := by simp [hlt]
      rw [ey] at p1
      have i0 : (0 : Int) ≤ (k : Int) := by omega
      have i1 : (0 : Int) < ((k + 1 : Nat) : Int) := by omega
      have i2 : ((k + 1 : Nat) : Int) - 1 = k := by omega
      have i3 : (k : Int) ≤ (cap : Int) := by omega
      have i4 : (k : Int) < ((k + 1 : Nat) : Int) := by omega
      have i5 : (k : Int) < (L.length : Int) := by omega
      have i6 : (0 : Int) < (k : Int) + 1 := by omega
      have i7 : (k : Int) + 1 ≤ (cap : Int) := by omega
      have i10 : (0 : Int) ≤ (k : Int) + 1 := by omega
      clear hc hr0
      by_cases hy : L[k] = 0
      · have hT2 : Hid (tr (L.take k) = tr L) := by show _ = _; rw [← hT.out, tr_take hlt hy]
        rw [hy] at p1
        clear hT hy ey hlk hrk
        go_wp2
        go_roundw
        case rel => exact ⟨k, by omega, rfl, hT2, by first | rfl | trivial⟩
        case measure => simp [intOf]
      · have hE : tr L = L.take (k + 1) := by rw [← hT.out, tr_done hlt hy]
        generalize L[k] = y at *
        cases neg
        · go_wp2_with fail
          refine (c_ownL _ (L.take (k + 1)) (by rw [hlk]; omega) _ hrk).mono ?_
          rintro e w1 ⟨lv, rfl, ho, hb1⟩
          obtain ⟨sl, scap, rfl, _⟩ := id ho.1
          have kS1 := kS.next hb1
          have c0 : w1.cell? ⟨w.heap.size, 0, none⟩ = some (.bool false) := kS1.cell 0
          have c1 : w1.cell? ⟨w.heap.size, 1, none⟩ = some (.slice none 0 0) := kS1.cell 1
          have z0 := kS1.frozen 0
          have z1 := kS1.frozen 1
          have k9 := (kS1.set 0 (.bool false)).set 1 (.slice sl (L.take (k + 1)).length scap)
          have hbb := below_step hb1 hb0.size hb0
          have hS : w.heap.size ≤ w.heap.size := Nat.le_refl _
          have hB9 : Below w.heap.size w ((w1.setCell ⟨w.heap.size, 0, none⟩ (.bool false)).setCell ⟨w.heap.size, 1, none⟩ (.slice sl (L.take (k + 1)).length scap)) := (hbb.setCell hS _).setCell hS _
          have ho9 := ho.set2 (S := w.heap.size) kS.lt (.bool false) (.slice sl (L.take (k + 1)).length scap)
          replace ho9 : RdO _ w.heap.size _ _ := ho9.le (Nat.le_of_lt kS.lt)
          rw [hlk] at k9 hB9 ho9 ⊢
          rw [← hE] at ho9
          have hE2 : (tr L).isEmpty = decide ((k + 1) = 0) := by rw [hE, isEmpty_dec hlk]
          clear hE ho
          go_wp2
          generalize (World.setCell (World.setCell _ _ _) _ _) = w9 at hB9 k9 ho9 ⊢
          have q0 : w9.cell? ⟨w.heap.size, 0, none⟩ = some (.bool false) := k9.cell 0
          have q1 : w9.cell? ⟨w.heap.size, 1, none⟩ = some (.slice sl ((k + 1)) scap) := k9.cell 1
          refine bodyPost_ret (v := .agg #[.bool false, .slice sl ((k + 1)) scap]) (by simp [results, Tryz.results89, go_sem, q0, q1]) rfl ?_
          exact ⟨_, by rw [hE2]; simp, ho9, hB9⟩
        · go_wp2_with fail
          refine (c_ownL _ (L.take (k + 1)) (by rw [hlk]; omega) _ hrk).mono ?_
          rintro e w1 ⟨lv, rfl, ho, hb1⟩
          obtain ⟨sl, scap, rfl, _⟩ := id ho.1
          have kS1 := kS.next hb1
          have c0 : w1.cell? ⟨w.heap.size, 0, none⟩ = some (.bool false) := kS1.cell 0
          have c1 : w1.cell? ⟨w.heap.size, 1, none⟩ = some (.slice none 0 0) := kS1.cell 1
          have z0 := kS1.frozen 0
          have z1 := kS1.frozen 1
          have k9 := (kS1.set 0 (.bool true)).set 1 (.slice sl (L.take (k + 1)).length scap)
          have hbb := below_step hb1 hb0.size hb0
          have hS : w.heap.size ≤ w.heap.size := Nat.le_refl _
          have hB9 : Below w.heap.size w ((w1.setCell ⟨w.heap.size, 0, none⟩ (.bool true)).setCell ⟨w.heap.size, 1, none⟩ (.slice sl (L.take (k + 1)).length scap)) := (hbb.setCell hS _).setCell hS _
          have ho9 := ho.set2 (S := w.heap.size) kS.lt (.bool true) (.slice sl (L.take (k + 1)).length scap)
          replace ho9 : RdO _ w.heap.size _ _ := ho9.le (Nat.le_of_lt kS.lt)
          rw [hlk] at k9 hB9 ho9 ⊢
          rw [← hE] at ho9
          have hE2 : (tr L).isEmpty = decide ((k + 1) = 0) := by rw [hE, isEmpty_dec hlk]
          clear hE ho
          go_wp2
          generalize (World.setCell (World.setCell _ _ _) _ _) = w9 at hB9 k9 ho9 ⊢
          have q0 : w9.cell? ⟨w.heap.size, 0, none⟩ = some (.bool true) := k9.cell 0
          have q1 : w9.cell? ⟨w.heap.size, 1, none⟩ = some (.slice sl ((k + 1)) scap) := k9.cell 1
          refine bodyPost_ret (v := .agg #[.bool true, .slice sl ((k + 1)) scap]) (by simp [results, Tryz.results89, go_sem, q0, q1]) rfl ?_
          exact ⟨_, by rw [hE2]; simp, ho9, hB9⟩
end Go.Proofs.YtgjdgcmmlfmhmaaGreatDoor
