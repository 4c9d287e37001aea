/- Several texts joined: CrvPlain Crv Crv2 LfP Stv DrH Smo RepL Lfy LfQ Lfz. -/
import Derived.Test.YtpnpidepkfnofaaGreatDoorStepPlain
import Derived.Test.YtpnpidepkfnofaaGreatDoorLog
import Derived.Test.YtpnpidepkfnofaaGreatDoorPairC
import Derived.Test.YtpnpidepkfnofaaGreatDoorApply
import Derived.Test.YtpnpidepkfnofaaGreatDoorMga
import Derived.Test.YtpnpidepkfnofaaGreatDoorChain
import Derived.Test.YtpnpidepkfnofaaGreatDoorDrL
import Derived.Test.YtpnpidepkfnofaaGreatDoorStep
import Derived.Test.YtpnpidepkfnofaaGreatDoorLfx
import Derived.Test.YtpnpidepkfnofaaGreatDoorPlg
/- CrvPlain -/
namespace Go.Proofs.YtpnpidepkfnofaaGreatDoor
open Go.RowKit

def stC (c s : Int × Int) : Int × Int := (apA s.1 c.1 s.2, apB s.1 c.2 s.2)
def okS (c s : Int × Int) : Bool := apOk s.1 c.1 c.2 s.2
def crO (c : Int × Int) : List (Int × Int) → Bool
  | [] => true
  | s :: L => okS c s && crO (stC c s) L
def crL (c : Int × Int) : List (Int × Int) → List (Int × Int)
  | [] => [c]
  | s :: L => c :: crL (stC c s) L
def crE (c : Int × Int) (L : List (Int × Int)) : Int × Int := L.foldl stC c
theorem crE_take (c : Int × Int) (L : List (Int × Int)) {k : Nat} (h : k < L.length) : crE c (L.take (k + 1)) = stC (crE c (L.take k)) L[k] := by
  unfold crE
  rw [List.take_succ_eq_append_getElem h, List.foldl_append]; rfl
theorem crL_len : ∀ (L : List (Int × Int)) (c : Int × Int), (crL c L).length = L.length + 1
  | [], _ => rfl
  | s :: L, c => by simp [crL, crL_len L]
theorem crL_snoc : ∀ (L : List (Int × Int)) (c s : Int × Int), crL c (L ++ [s]) = crL c L ++ [stC (crE c L) s]
  | [], _, _ => rfl
  | x :: L, c, s => by simp [crL, crE, crL_snoc L]
theorem crL_take (c : Int × Int) (L : List (Int × Int)) {k : Nat} (h : k < L.length) : crL c (L.take (k + 1)) = crL c (L.take k) ++ [stC (crE c (L.take k)) L[k]] := by
  rw [List.take_succ_eq_append_getElem h, crL_snoc]
theorem crL_last : ∀ (L : List (Int × Int)) (c : Int × Int) (h : L.length < (crL c L).length), (crL c L)[L.length] = crE c L
  | [], _, _ => rfl
  | s :: L, c, h => by
    have := crL_last L (stC c s) (by rw [crL_len]; omega)
    simpa [crL, crE] using this
theorem crO_drop (L : List (Int × Int)) : ∀ (c : Int × Int) (k : Nat) (h : k < L.length), crO c (L.drop k) = (okS c L[k] && crO (stC c L[k]) (L.drop (k + 1))) := by
  intro c k h
  rw [List.drop_eq_getElem_cons h]; rfl
theorem crO_end (L : List (Int × Int)) (c : Int × Int) : crO c (L.drop L.length) = true := by simp [crO]
theorem stC_curve {c s : Int × Int} (hs : stepB s.1 s.2 = true) (hc : curveB c.1 c.2 = true) (ho : okS c s = true) : curveB (stC c s).1 (stC c s).2 = true := ap_curve hs hc ho
noncomputable def ccO (c : Int × Int) (L : List (Int × Int)) : Bool := curveB c.1 c.2 && logB L && crO c L
noncomputable def ccL (c : Int × Int) (L : List (Int × Int)) : List (Int × Int) := if ccO c L then crL c L else []
theorem ccL_len (c : Int × Int) (L : List (Int × Int)) : (ccL c L).length ≤ 21 := by
  unfold ccL ccO
  split
  · rename_i h
    simp only [Bool.and_eq_true] at h
    have := (logB_of h.1.2).1
    rw [crL_len]; omega
  · simp
end Go.Proofs.YtpnpidepkfnofaaGreatDoor

/- Crv -/
namespace Go.Proofs.YtpnpidepkfnofaaGreatDoor
open Go.RowKit

def crR (c : Int × Int) (L : List (Int × Int)) : List (Int × Int) := if crO c L then crL c L else []
theorem OwnsP.one (w : World) (T : TypeId) (A B : Int) : OwnsP T (w.alloc (.cells #[.int .i64 A, .int .i64 B] T)) w.heap.size (.slice (some ⟨w.heap.size, 0, none⟩) 1 1) [(A, B)] := by
  refine ⟨rfl, .inr ⟨w.heap.size, 1, #[.int .i64 A, .int .i64 B], rfl, Nat.le_refl _, Blk.new w _ _, Nat.le_refl _, by unfold maxLen; omega, rfl, rfl⟩⟩
theorem OwnsP.far {T : TypeId} {w : World} {base : Nat} {v : Value} {L : List (Int × Int)} (h : OwnsP T w base v L) {p : Addr} (hp : p.block < base) (u : Value) : OwnsP T (w.setCell p u) base v L := by
  refine ⟨h.1, ?_⟩
  rcases h.2 with h0 | ⟨g, cap, cur, hv, hg, hh, r⟩
  · exact .inl h0
  · exact .inr ⟨g, cap, cur, hv, hg, (Below.heap_setCell _ _ _ _ (by omega)).trans hh, r⟩
theorem ListPost.no {T : TypeId} {w w' : World} {c : Int × Int} {L : List (Int × Int)} (h : crO c L = false) (hb : Below w.heap.size w w') : ListPost T w (crR c L) (crO c L) (.returned (.tuple #[.slice none 0 0, .bool false])) w' := by
  unfold crR
  rw [h]
  exact ⟨_, rfl, OwnsP.nil _ _ _, hb⟩
theorem ListPost.yes {T : TypeId} {w w' : World} {v : Value} {c : Int × Int} {L : List (Int × Int)} (h : crO c L = true) (ho : OwnsP T w' w.heap.size v (crL c L)) (hb : Below w.heap.size w w') : ListPost T w (crR c L) (crO c L) (.returned (.tuple #[v, .bool true])) w' := by
  unfold crR
  rw [h]
  exact ⟨_, rfl, ho, hb⟩
set_option maxHeartbeats 2000000 in
theorem c_curvesOfLog (base : Nat) (v : Value) (A B : Int) (L : List (Int × Int)) (hC : curveB A B = true) (hG : logB L = true) (w : World) (hown : OwnsS w base v L) :
    Calls Tryz.prog 50 #[.agg #[.int .i64 A, .int .i64 B], v] w (ListPost 33 w (crR (A, B) L) (crO (A, B) L)) := by
  obtain ⟨hl, hst⟩ := logB_of hG
  have HK : Hid (∀ k (hk : k < L.length), stepB L[k].1 L[k].2 = true) := hst
  have HG := Lib.hid hG
  obtain ⟨a, cap, rfl, hform⟩ := OwnsP.form hown
  have HF := Lib.hid hform
  have HC := Lib.hid hC
  clear hform hown hst hG hC
  have kC := (Blk.new w #[.int .i64 A, .int .i64 B] 33).alloc (.cells #[.int .i64 A, .int .i64 B] 33)
  have ho := OwnsP.one (w.alloc (.cells #[.int .i64 A, .int .i64 B] 33)) 33 A B
  have hB : Below w.heap.size w ((w.alloc (.cells #[.int .i64 A, .int .i64 B] 33)).alloc (.cells #[.int .i64 A, .int .i64 B] 33)) := by (repeat' (first | (with_reducible exact Below.refl _ _) | (with_reducible refine below_step (by assumption) ?_ ?_) | (with_reducible refine Below.alloc ?_ ?_ _) | (with_reducible refine Below.setCell ?_ ?_ _) | (with_reducible refine below_drewN ?_ _) | (with_reducible refine Below.drew ?_) | omega | (simp; omega) | (simp; done)))
  simp only [World.size_alloc] at ho
  go_enter Tryz.func50, Tryz.ntmps50
  go_wp2
  generalize (w.alloc _).alloc _ = W at *
  go_loopw [6, 15] (fun out i wr => ∃ (k : Nat) (X Y : Int), k ≤ L.length ∧ i = .int .i64 k ∧ Hid (curveB X Y = true ∧ (X, Y) = crE (A, B) (L.take k) ∧ crO (A, B) L = crO (X, Y) (L.drop k)) ∧ OwnsC wr (w.heap.size + 1) out (crL (A, B) (L.take k)) ∧ Blk w.heap.size #[.int .i64 X, .int .i64 Y] 33 wr ∧ Below w.heap.size w wr) (fun _ i _ => L.length - (intOf i).toNat)
  case atStart => exact ⟨0, A, B, Nat.zero_le _, rfl, ⟨HC.out, rfl, rfl⟩, ho, kC, hB⟩
  case round =>
    clear ho kC hB
    obtain ⟨k, X, Y, hk, rfl, HR, ho, kC, hbr⟩ := hrel
    have hzr := hbr.size
    by_cases hlt : k < L.length
    · obtain ⟨g, rfl, q1, q2, _, hg, _⟩ := HF.out k hlt
      have d1 : wr.cell? ⟨g, k * 2, none⟩ = _ := (hbr.cell (p := ⟨g, k * 2, none⟩) hg).trans q1
      have d2 : wr.cell? ⟨g, k * 2 + 1, none⟩ = _ := (hbr.cell (p := ⟨g, k * 2 + 1, none⟩) hg).trans q2
      have hstep := HK.out k hlt
      have HS : Hid (stC (X, Y) L[k] = crE (A, B) (L.take (k + 1))) := by show _ = _; rw [crE_take _ _ hlt, HR.out.2.1]
      have HT : Hid (crL (A, B) (L.take (k + 1)) = crL (A, B) (L.take k) ++ [stC (X, Y) L[k]]) := by show _ = _; rw [crL_take _ _ hlt, HR.out.2.1]
      have HD : Hid (crO (A, B) L = (okS (X, Y) L[k] && crO (stC (X, Y) L[k]) (L.drop (k + 1)))) := by show _ = _; rw [HR.out.2.2, crO_drop _ _ _ hlt]
      have hml : (crL (A, B) (L.take k)).length < 1000000000000 := by rw [crL_len, List.length_take]; omega
      clear q1 q2
      generalize L[k] = c at d1 d2 hstep HS HT HD
      generalize crL (A, B) (L.take k) = M at ho HT hml
      obtain ⟨x, y⟩ := c
      simp only at d1 d2 hstep
      have hcall := c_applyStep x X Y y HR.out.1 hstep
      have hnext : okS (X, Y) (x, y) = true → curveB (apA x X y) (apB x Y y) = true := fun h => stC_curve (c := (X, Y)) (s := (x, y)) hstep HR.out.1 h
      have hok : okS (X, Y) (x, y) = apOk x X Y y := rfl
      have hst : stC (X, Y) (x, y) = (apA x X y, apB x Y y) := rfl
      rw [hok] at hnext HD
      rw [hst] at HS HT HD
      clear hok hst hstep
      generalize apA x X y = X' at hcall hnext HS HT HD
      generalize apB x Y y = Y' at hcall hnext HS HT HD
      have kS := Blk.new wr #[.int .i64 x, .int .i64 y] 44
      have kD1 := kC.alloc (.cells #[.int .i64 x, .int .i64 y] 44)
      have hA := (Below.refl wr.heap.size wr).alloc (Nat.le_refl _) (.cells #[.int .i64 x, .int .i64 y] 44)
      have ho1 := OwnsP.below ho hA
      cases hq : apOk x X Y y
      · rw [hq] at hcall HD
        simp only [rs, Bool.false_eq_true, if_false, Bool.false_and] at hcall HD
        have HCA := Lib.hid hcall
        clear hcall hnext hq
        have kC0 : (wr).cell? ⟨w.heap.size, 0, none⟩ = some (.int .i64 X) := kC.cell 0; have kC1 : (wr).cell? ⟨w.heap.size, 1, none⟩ = some (.int .i64 Y) := kC.cell 1; have kCl : w.heap.size < (wr).heap.size := kC.lt
        go_wp2_with fail
        (go_at_call 77; refine (HCA.out _).mono ?_; rintro e w2 ⟨rfl, hb2⟩; obtain ⟨hc2, hf2⟩ := bcell hb2; have hz2 := hb2.size; (try simp only [World.size_alloc] at hz2); (try (have hy2 : w.heap.size < w2.heap.size := by omega)); (try (have hx2 := Nat.lt_of_succ_le hz2)); (try (have hv2 := Nat.lt_of_succ_le (Nat.le_of_lt hx2))); (try (have hy2_1 : w1.heap.size < w2.heap.size := by omega)))
        go_wp2
        go_ret2
        refine ListPost.no HD.out ?_
        (repeat' (first | (with_reducible exact Below.refl _ _) | (with_reducible refine below_step (by assumption) ?_ ?_) | (with_reducible refine Below.alloc ?_ ?_ _) | (with_reducible refine Below.setCell ?_ ?_ _) | (with_reducible refine below_drewN ?_ _) | (with_reducible refine Below.drew ?_) | omega | (simp; omega) | (simp; done)))
      · rw [hq] at hcall HD
        simp only [rs, if_true, Bool.true_and] at hcall HD
        have HCA := Lib.hid hcall
        have HN := Lib.hid (hnext hq)
        clear hcall hnext hq
        have kC0 : (wr).cell? ⟨w.heap.size, 0, none⟩ = some (.int .i64 X) := kC.cell 0; have kC1 : (wr).cell? ⟨w.heap.size, 1, none⟩ = some (.int .i64 Y) := kC.cell 1; have kCl : w.heap.size < (wr).heap.size := kC.lt
        go_wp2_with fail
        (go_at_call 77; refine (HCA.out _).mono ?_; rintro e w2 ⟨rfl, hb2⟩; obtain ⟨hc2, hf2⟩ := bcell hb2; have hz2 := hb2.size; (try simp only [World.size_alloc] at hz2); (try (have hy2 : w.heap.size < w2.heap.size := by omega)); (try (have hx2 := Nat.lt_of_succ_le hz2)); (try (have hv2 := Nat.lt_of_succ_le (Nat.le_of_lt hx2))); (try (have hy2_1 : w1.heap.size < w2.heap.size := by omega)))
        have kE := kD1.next hb2
        have hb3 : Below w.heap.size w w2 := by (repeat' (first | (with_reducible exact Below.refl _ _) | (with_reducible refine below_step (by assumption) ?_ ?_) | (with_reducible refine Below.alloc ?_ ?_ _) | (with_reducible refine Below.setCell ?_ ?_ _) | (with_reducible refine below_drewN ?_ _) | (with_reducible refine Below.drew ?_) | omega | (simp; omega) | (simp; done)))
        have ho2 := OwnsP.below ho1 hb2
        have hsz2 := hb3.size
        have hzz : w.heap.size < w2.heap.size := kE.lt
        clear hc2 hf2 kC0 kC1 d1 d2 kD1 ho1 ho
        have ho3 := OwnsP.below (OwnsP.far (OwnsP.far ho2 (p := ⟨w.heap.size, 0, none⟩) (Nat.lt_succ_self _) (.int .i64 X')) (p := ⟨w.heap.size, 1, none⟩) (Nat.lt_succ_self _) (.int .i64 Y')) ((Below.refl _ _).alloc (Nat.le_refl _) (.cells #[.int .i64 X', .int .i64 Y'] 33))
        have kF := ((kE.set 0 (.int .i64 X')).set 1 (.int .i64 Y')).alloc (.cells #[.int .i64 X', .int .i64 Y'] 33)
        have hb4 : Below w.heap.size w (((w2.setCell ⟨w.heap.size, 0, none⟩ (.int .i64 X')).setCell ⟨w.heap.size, 1, none⟩ (.int .i64 Y')).alloc (.cells #[.int .i64 X', .int .i64 Y'] 33)) := ((hb3.setCell (Nat.le_refl _) _).setCell (Nat.le_refl _) _).alloc (by simp [World.setCell]; omega) _
        have kE0 : (w2).cell? ⟨w.heap.size, 0, none⟩ = some (.int .i64 X) := kE.cell 0; have kE1 : (w2).cell? ⟨w.heap.size, 1, none⟩ = some (.int .i64 Y) := kE.cell 1; have kEf0 : (w2).frozen? ⟨w.heap.size, 0, none⟩ = false := kE.frozen 0; have kEf1 : (w2).frozen? ⟨w.heap.size, 1, none⟩ = false := kE.frozen 1; have kEl : w.heap.size < (w2).heap.size := kE.lt
        have hs4 : w.heap.size + 1 ≤ (((w2.setCell ⟨w.heap.size, 0, none⟩ (.int .i64 X')).setCell ⟨w.heap.size, 1, none⟩ (.int .i64 Y')).alloc (.cells #[.int .i64 X', .int .i64 Y'] 33)).heap.size := by simp [World.setCell]; omega
        have H3 := Lib.hid (And.intro ho3 (And.intro kF (And.intro hb4 hs4)))
        clear ho3 kF hb4 hs4
        go_wp2_with (at_builtin; refine wpList_appC (p := (X', Y')) rfl _ _ rfl (w.heap.size + 1) _ _ rfl H3.out.1 (by simp [World.setCell, go_sem]) hml H3.out.2.2.2 ?_; intro v' w4 ho4 hb4 hg4)
        have hb5 := below_step hb4 (Nat.le_succ _) H3.out.2.2.1
        have kG : Blk w.heap.size #[.int .i64 X', .int .i64 Y'] 33 w4 := (hb4.block w.heap.size (Nat.lt_succ_self _)).trans H3.out.2.1
        clear hg4
        go_wp2
        go_roundw
        case rel => exact ⟨k + 1, X', Y', by omega, by go_num, ⟨HN.out, HS.out, HD.out⟩, by rw [HT.out]; exact ho4, kG, hb5⟩
        case measure => simp [intOf]; omega
    · obtain rfl : k = L.length := by omega
      rw [List.take_length] at ho
      have HE : Hid (crO (A, B) L = true) := by show _ = _; rw [HR.out.2.2, crO_end]
      go_wp2
      go_ret2
      exact ListPost.yes HE.out (ho.le (by omega)) hbr
end Go.Proofs.YtpnpidepkfnofaaGreatDoor

/- Crv2 -/
namespace Go.Proofs.YtpnpidepkfnofaaGreatDoor
open Go.RowKit

theorem cc_of {A B : Int} {L : List (Int × Int)} (h1 : curveB A B = true) (h2 : logB L = true) : ccL (A, B) L = crR (A, B) L ∧ ccO (A, B) L = crO (A, B) L := by
  unfold ccL crR ccO
  rw [h1, h2]; exact ⟨rfl, rfl⟩
theorem cc_no1 {A B : Int} {L : List (Int × Int)} (h1 : curveB A B = false) : ccL (A, B) L = [] ∧ ccO (A, B) L = false := by
  unfold ccL ccO
  rw [h1]; exact ⟨rfl, rfl⟩
theorem cc_no2 {A B : Int} {L : List (Int × Int)} (h1 : logB L = false) : ccL (A, B) L = [] ∧ ccO (A, B) L = false := by
  unfold ccL ccO
  rw [h1, Bool.and_false]; exact ⟨rfl, rfl⟩
theorem ListPost.nil' {T : TypeId} {w w' : World} {L : List (Int × Int)} {b : Bool} (h : L = [] ∧ b = false) (hb : Below w.heap.size w w') : ListPost T w L b (.returned (.tuple #[.slice none 0 0, .bool false])) w' := by
  rw [h.1, h.2]
  exact ⟨_, rfl, OwnsP.nil _ _ _, hb⟩
theorem ListPost.of {T : TypeId} {w w' : World} {v : Value} {L M : List (Int × Int)} {b c : Bool} (h : L = M ∧ b = c) (ho : OwnsP T w' w.heap.size v M) (hb : Below w.heap.size w w') : ListPost T w L b (.returned (.tuple #[v, .bool c])) w' := by
  rw [h.1, h.2]
  exact ⟨_, rfl, ho, hb⟩
noncomputable def rpE (A B : Int) (L : List (Int × Int)) : Int × Int := if ccO (A, B) L then crE (A, B) L else (0, 0)
noncomputable def ckO (A B : Int) (L : List (Int × Int)) (C D : Int) : Bool := curveB A B && logB L && curveB C D
noncomputable def ckB (A B : Int) (L : List (Int × Int)) (C D : Int) : Bool := ckO A B L C D && (crO (A, B) L && ((crE (A, B) L).1 == C && (crE (A, B) L).2 == D))
def PairPost (w : World) (c : Int × Int) (b : Bool) (e : Ending) (w' : World) : Prop := e = .returned (.tuple #[.agg #[.int .i64 c.1, .int .i64 c.2], .bool b]) ∧ Below w.heap.size w w'
theorem PairPost.no {w w' : World} {A B : Int} {L : List (Int × Int)} (h : ccO (A, B) L = false) (hb : Below w.heap.size w w') : PairPost w (rpE A B L) (ccO (A, B) L) (.returned (.tuple #[.agg #[.int .i64 0, .int .i64 0], .bool false])) w' := by
  unfold rpE
  rw [h]
  exact ⟨rfl, hb⟩
theorem PairPost.yes {w w' : World} {A B X Y : Int} {L : List (Int × Int)} (h : ccO (A, B) L = true) (he : crE (A, B) L = (X, Y)) (hb : Below w.heap.size w w') : PairPost w (rpE A B L) (ccO (A, B) L) (.returned (.tuple #[.agg #[.int .i64 X, .int .i64 Y], .bool true])) w' := by
  unfold rpE
  rw [h, he]
  exact ⟨rfl, hb⟩
def BoolsPost (w : World) (a b : Bool) (e : Ending) (w' : World) : Prop := e = .returned (.tuple #[.bool a, .bool b]) ∧ Below w.heap.size w w'
theorem BoolsPost.of {w w' : World} {a b a' b' : Bool} (h : a = a' ∧ b = b') (hb : Below w.heap.size w w') : BoolsPost w a b (.returned (.tuple #[.bool a', .bool b'])) w' := by
  rw [h.1, h.2]
  exact ⟨rfl, hb⟩
theorem ck_no {A B C D : Int} {L : List (Int × Int)} (h : curveB A B = false ∨ logB L = false ∨ curveB C D = false) : ckB A B L C D = false ∧ ckO A B L C D = false := by
  have : ckO A B L C D = false := by
    unfold ckO
    rcases h with h | h | h <;> rw [h] <;> simp
  unfold ckB
  rw [this]; exact ⟨rfl, rfl⟩
theorem ck_yes {A B C D : Int} {L : List (Int × Int)} (h1 : curveB A B = true) (h2 : logB L = true) (h3 : curveB C D = true) : ckB A B L C D = (crO (A, B) L && ((crE (A, B) L).1 == C && (crE (A, B) L).2 == D)) ∧ ckO A B L C D = true := by
  have : ckO A B L C D = true := by unfold ckO; rw [h1, h2, h3]; rfl
  unfold ckB
  rw [this, Bool.true_and]; exact ⟨rfl, rfl⟩
theorem crR_at {A B : Int} {L : List (Int × Int)} (h : crO (A, B) L = true) : (crR (A, B) L).length = L.length + 1 ∧ ∀ (hi : L.length < (crR (A, B) L).length), (crR (A, B) L)[L.length] = crE (A, B) L := by
  unfold crR
  rw [h]
  exact ⟨crL_len _ _, fun hi => crL_last L (A, B) hi⟩
set_option maxHeartbeats 2000000 in
theorem c_iReplayLog (base : Nat) (v : Value) (A B : Int) (L : List (Int × Int)) (hL : L.length ≤ 100000000) (w : World) (hown : OwnsS w base v L) :
    Calls Tryz.prog 16 #[.agg #[.int .i64 A, .int .i64 B], v] w (PairPost w (rpE A B L) (ccO (A, B) L)) := by
  have H0 := Lib.hid (c_isLog base v L hL)
  have hAA : Below w.heap.size w ((w.alloc (.cells #[.int .i64 A, .int .i64 B] 33)).alloc (.cells #[.int .i64 0, .int .i64 0] 33)) := by (repeat' (first | (with_reducible exact Below.refl _ _) | (with_reducible refine below_step (by assumption) ?_ ?_) | (with_reducible refine Below.alloc ?_ ?_ _) | (with_reducible refine Below.setCell ?_ ?_ _) | (with_reducible refine below_drewN ?_ _) | (with_reducible refine Below.drew ?_) | omega | (simp; omega) | (simp; done)))
  have kR := Blk.new (w.alloc (.cells #[.int .i64 A, .int .i64 B] 33)) #[.int .i64 0, .int .i64 0] 33
  have hAs := hAA.size
  have ho1 := OwnsP.below hown ((Below.refl w.heap.size w).alloc (Nat.le_refl _) (.cells #[.int .i64 A, .int .i64 B] 33))
  have ho1 := OwnsP.below ho1 ((Below.refl _ _).alloc (Nat.le_refl _) (.cells #[.int .i64 0, .int .i64 0] 33))
  simp only [World.size_alloc] at kR
  cases h1 : curveB A B
  · have HE := Lib.hid (cc_no1 (L := L) h1)
    go_enter Tryz.func16, Tryz.ntmps16
    go_wp2_with fail
    (go_at_call 46; refine (c_isCurve _ _ _).mono ?_; rintro e w1 ⟨rfl, hb1⟩; obtain ⟨hc1, hf1⟩ := bcell hb1; have hz1 := hb1.size; (try simp only [World.size_alloc] at hz1); (try (have hy1 : w.heap.size < w1.heap.size := by omega)); (try (have hx1 := Nat.lt_of_succ_le hz1)); (try (have hv1 := Nat.lt_of_succ_le (Nat.le_of_lt hx1))))
    have k1 := kR.next hb1
    have k10 : (w1).cell? ⟨w.heap.size + 1, 0, none⟩ = some (.int .i64 0) := k1.cell 0; have k11 : (w1).cell? ⟨w.heap.size + 1, 1, none⟩ = some (.int .i64 0) := k1.cell 1; have k1f0 : (w1).frozen? ⟨w.heap.size + 1, 0, none⟩ = false := k1.frozen 0; have k1f1 : (w1).frozen? ⟨w.heap.size + 1, 1, none⟩ = false := k1.frozen 1; have k1l : w.heap.size + 1 < (w1).heap.size := k1.lt
    go_wp2
    refine bodyPost_ret (v := .tuple #[.agg #[.int .i64 0, .int .i64 0], .bool false]) (by simp [results, Tryz.results16, go_sem, k10, k11]) rfl ?_
    exact PairPost.no HE.out.2 (by (repeat' (first | (with_reducible exact Below.refl _ _) | (with_reducible refine below_step (by assumption) ?_ ?_) | (with_reducible refine Below.alloc ?_ ?_ _) | (with_reducible refine Below.setCell ?_ ?_ _) | (with_reducible refine below_drewN ?_ _) | (with_reducible refine Below.drew ?_) | omega | (simp; omega) | (simp; done))))
  · cases h2 : logB L
    · have HE := Lib.hid (cc_no2 (A := A) (B := B) h2)
      rw [h2] at H0
      go_enter Tryz.func16, Tryz.ntmps16
      go_wp2_with fail
      (go_at_call 46; refine (c_isCurve _ _ _).mono ?_; rintro e w1 ⟨rfl, hb1⟩; obtain ⟨hc1, hf1⟩ := bcell hb1; have hz1 := hb1.size; (try simp only [World.size_alloc] at hz1); (try (have hy1 : w.heap.size < w1.heap.size := by omega)); (try (have hx1 := Nat.lt_of_succ_le hz1)); (try (have hv1 := Nat.lt_of_succ_le (Nat.le_of_lt hx1))))
      go_wp2_with fail
      (go_at_call 28; refine (H0.out _ (OwnsP.below ho1 hb1)).mono ?_; rintro e w2 ⟨rfl, hb2⟩; obtain ⟨hc2, hf2⟩ := bcell hb2; have hz2 := hb2.size; (try simp only [World.size_alloc] at hz2); (try (have hy2 : w.heap.size < w2.heap.size := by omega)); (try (have hx2 := Nat.lt_of_succ_le hz2)); (try (have hv2 := Nat.lt_of_succ_le (Nat.le_of_lt hx2))); (try (have hy2_1 : w1.heap.size < w2.heap.size := by omega)))
      have k1 := (kR.next hb1).next hb2
      have k10 : (w2).cell? ⟨w.heap.size + 1, 0, none⟩ = some (.int .i64 0) := k1.cell 0; have k11 : (w2).cell? ⟨w.heap.size + 1, 1, none⟩ = some (.int .i64 0) := k1.cell 1; have k1f0 : (w2).frozen? ⟨w.heap.size + 1, 0, none⟩ = false := k1.frozen 0; have k1f1 : (w2).frozen? ⟨w.heap.size + 1, 1, none⟩ = false := k1.frozen 1; have k1l : w.heap.size + 1 < (w2).heap.size := k1.lt
      go_wp2
      refine bodyPost_ret (v := .tuple #[.agg #[.int .i64 0, .int .i64 0], .bool false]) (by simp [results, Tryz.results16, go_sem, k10, k11]) rfl ?_
      exact PairPost.no HE.out.2 (by (repeat' (first | (with_reducible exact Below.refl _ _) | (with_reducible refine below_step (by assumption) ?_ ?_) | (with_reducible refine Below.alloc ?_ ?_ _) | (with_reducible refine Below.setCell ?_ ?_ _) | (with_reducible refine below_drewN ?_ _) | (with_reducible refine Below.drew ?_) | omega | (simp; omega) | (simp; done))))
    · have HE := Lib.hid (cc_of h1 h2)
      have HC : Hid (∀ w u, _) := fun w u => c_curvesOfLog base v A B L h1 h2 w u
      rw [h2] at H0
      obtain ⟨hl, _⟩ := logB_of h2
      clear h2
      cases h3 : crO (A, B) L
      · rw [h3] at HC HE
        go_enter Tryz.func16, Tryz.ntmps16
        go_wp2_with fail
        (go_at_call 46; refine (c_isCurve _ _ _).mono ?_; rintro e w1 ⟨rfl, hb1⟩; obtain ⟨hc1, hf1⟩ := bcell hb1; have hz1 := hb1.size; (try simp only [World.size_alloc] at hz1); (try (have hy1 : w.heap.size < w1.heap.size := by omega)); (try (have hx1 := Nat.lt_of_succ_le hz1)); (try (have hv1 := Nat.lt_of_succ_le (Nat.le_of_lt hx1))))
        go_wp2_with fail
        (go_at_call 28; refine (H0.out _ (OwnsP.below ho1 hb1)).mono ?_; rintro e w2 ⟨rfl, hb2⟩; obtain ⟨hc2, hf2⟩ := bcell hb2; have hz2 := hb2.size; (try simp only [World.size_alloc] at hz2); (try (have hy2 : w.heap.size < w2.heap.size := by omega)); (try (have hx2 := Nat.lt_of_succ_le hz2)); (try (have hv2 := Nat.lt_of_succ_le (Nat.le_of_lt hx2))); (try (have hy2_1 : w1.heap.size < w2.heap.size := by omega)))
        go_wp2_with fail
        refine (HC.out _ (OwnsP.below (OwnsP.below ho1 hb1) hb2)).mono ?_
        rintro e w3 ⟨rv, rfl, ho3, hb3⟩
        have k1 := ((kR.next hb1).next hb2).next hb3
        have k10 : (w3).cell? ⟨w.heap.size + 1, 0, none⟩ = some (.int .i64 0) := k1.cell 0; have k11 : (w3).cell? ⟨w.heap.size + 1, 1, none⟩ = some (.int .i64 0) := k1.cell 1; have k1f0 : (w3).frozen? ⟨w.heap.size + 1, 0, none⟩ = false := k1.frozen 0; have k1f1 : (w3).frozen? ⟨w.heap.size + 1, 1, none⟩ = false := k1.frozen 1; have k1l : w.heap.size + 1 < (w3).heap.size := k1.lt
        go_wp2
        refine bodyPost_ret (v := .tuple #[.agg #[.int .i64 0, .int .i64 0], .bool false]) (by simp [results, Tryz.results16, go_sem, k10, k11]) rfl ?_
        exact PairPost.no HE.out.2 (by (repeat' (first | (with_reducible exact Below.refl _ _) | (with_reducible refine below_step (by assumption) ?_ ?_) | (with_reducible refine Below.alloc ?_ ?_ _) | (with_reducible refine Below.setCell ?_ ?_ _) | (with_reducible refine below_drewN ?_ _) | (with_reducible refine Below.drew ?_) | omega | (simp; omega) | (simp; done))))
      · obtain ⟨hl1, hl2⟩ := crR_at h3
        rw [h3] at HC HE
        obtain ⟨a0, cap0, hv0, hf0⟩ := OwnsP.form hown
        subst hv0
        clear hf0 hown
        go_enter Tryz.func16, Tryz.ntmps16
        go_wp2_with fail
        (go_at_call 46; refine (c_isCurve _ _ _).mono ?_; rintro e w1 ⟨rfl, hb1⟩; obtain ⟨hc1, hf1⟩ := bcell hb1; have hz1 := hb1.size; (try simp only [World.size_alloc] at hz1); (try (have hy1 : w.heap.size < w1.heap.size := by omega)); (try (have hx1 := Nat.lt_of_succ_le hz1)); (try (have hv1 := Nat.lt_of_succ_le (Nat.le_of_lt hx1))))
        go_wp2_with fail
        (go_at_call 28; refine (H0.out _ (OwnsP.below ho1 hb1)).mono ?_; rintro e w2 ⟨rfl, hb2⟩; obtain ⟨hc2, hf2⟩ := bcell hb2; have hz2 := hb2.size; (try simp only [World.size_alloc] at hz2); (try (have hy2 : w.heap.size < w2.heap.size := by omega)); (try (have hx2 := Nat.lt_of_succ_le hz2)); (try (have hv2 := Nat.lt_of_succ_le (Nat.le_of_lt hx2))); (try (have hy2_1 : w1.heap.size < w2.heap.size := by omega)))
        go_wp2_with fail
        refine (HC.out _ (OwnsP.below (OwnsP.below ho1 hb1) hb2)).mono ?_
        rintro e w3 ⟨rv, rfl, ho3, hb3⟩
        obtain ⟨a, cap, hv, hf⟩ := OwnsP.form ho3
        rw [hl1] at hv
        subst hv
        obtain ⟨g, rfl, q1, q2, _, hg, _⟩ := hf L.length (by omega)
        have HL := Lib.hid (hl2 (by omega))
        generalize (crR (A, B) L)[L.length] = c at q1 q2 HL
        obtain ⟨X, Y⟩ := c
        have k1 := ((kR.next hb1).next hb2).next hb3
        have hbb : Below w.heap.size w w3 := by (repeat' (first | (with_reducible exact Below.refl _ _) | (with_reducible refine below_step (by assumption) ?_ ?_) | (with_reducible refine Below.alloc ?_ ?_ _) | (with_reducible refine Below.setCell ?_ ?_ _) | (with_reducible refine below_drewN ?_ _) | (with_reducible refine Below.drew ?_) | omega | (simp; omega) | (simp; done)))
        have k10 : (w3).cell? ⟨w.heap.size + 1, 0, none⟩ = some (.int .i64 0) := k1.cell 0; have k11 : (w3).cell? ⟨w.heap.size + 1, 1, none⟩ = some (.int .i64 0) := k1.cell 1; have k1f0 : (w3).frozen? ⟨w.heap.size + 1, 0, none⟩ = false := k1.frozen 0; have k1f1 : (w3).frozen? ⟨w.heap.size + 1, 1, none⟩ = false := k1.frozen 1; have k1l : w.heap.size + 1 < (w3).heap.size := k1.lt
        clear hl1 hl2 hf ho3
        go_wp2
        refine bodyPost_ret (v := .tuple #[.agg #[.int .i64 X, .int .i64 Y], .bool true]) (by simp [results, Tryz.results16, go_sem, k10, k11]) rfl ?_
        exact PairPost.yes HE.out.2 HL.out.symm (by (repeat' (first | (with_reducible exact Below.refl _ _) | (with_reducible refine below_step (by assumption) ?_ ?_) | (with_reducible refine Below.alloc ?_ ?_ _) | (with_reducible refine Below.setCell ?_ ?_ _) | (with_reducible refine below_drewN ?_ _) | (with_reducible refine Below.drew ?_) | omega | (simp; omega) | (simp; done))))
end Go.Proofs.YtpnpidepkfnofaaGreatDoor

/- LfP -/
namespace Go.Proofs.YtpnpidepkfnofaaGreatDoor
open Go.RowKit

/-! shortened logs -/
theorem shL_snoc (M : List (Int × Int)) (c : Int × Int) : shL (M ++ [c]) = shS (shL M) c := by
  unfold shL; rw [List.foldl_append]; rfl
theorem shL_le (M : List (Int × Int)) : (shL M).length ≤ M.length := by
  have := shL_len M []
  simpa [shL] using this
theorem sh_drop {X : List (Int × Int)} {x : Int × Int} (h : shL (X ++ [x]) = X ++ [x]) : shL X = X := by
  rw [shL_snoc] at h
  have hl := shL_le X
  unfold shS at h
  split at h
  · have := congrArg List.length h
    simp only [List.length_dropLast, List.length_append, List.length_singleton] at this
    omega
  · exact List.append_cancel_right h
theorem sh_step {M : List (Int × Int)} (h : shL M = M) (c : Int × Int) : shL (shS M c) = shS M c := by
  by_cases hc : M.getLast? = some (und c)
  · have e : shS M c = M.dropLast := by unfold shS; rw [if_pos hc]
    rw [e]
    have hne : M ≠ [] := by rintro rfl; simp at hc
    have hx := List.dropLast_concat_getLast hne
    rw [← hx] at h
    exact sh_drop h
  · have e : shS M c = M ++ [c] := by unfold shS; rw [if_neg hc]
    rw [e, shL_snoc, h, e]
theorem sh_fold : ∀ (L M : List (Int × Int)), shL M = M → shL (L.foldl shS M) = L.foldl shS M
  | [], _, h => h
  | c :: L, _, h => sh_fold L _ (sh_step h c)
theorem shL_twice (L : List (Int × Int)) : shL (shL L) = shL L := sh_fold L [] rfl
theorem sh_mem : ∀ (L M : List (Int × Int)), ∀ x ∈ L.foldl shS M, x ∈ M ∨ x ∈ L
  | [], _, x, h => .inl h
  | c :: L, M, x, h => by
    rcases sh_mem L (shS M c) x h with h | h
    · unfold shS at h
      split at h
      · exact .inl (List.dropLast_subset _ h)
      · rcases List.mem_append.1 h with h | h
        · exact .inl h
        · exact .inr (by rw [List.mem_singleton] at h; simp [h])
    · exact .inr (List.mem_cons_of_mem _ h)
theorem sh_even : ∀ (L M : List (Int × Int)), (L.foldl shS M).length % 2 = (M.length + L.length) % 2
  | [], _ => rfl
  | c :: L, M => by
    have := sh_even L (shS M c)
    have h2 : (shS M c).length % 2 = (M.length + 1) % 2 := by
      unfold shS
      split
      · rename_i h
        have hne : M ≠ [] := by rintro rfl; simp at h
        have := List.length_pos_iff.2 hne
        simp only [List.length_dropLast]; omega
      · simp
    simp only [List.foldl_cons, List.length_cons]
    omega
theorem logB_iff {L : List (Int × Int)} : logB L = true ↔ (∀ c ∈ L, stepB c.1 c.2 = true) ∧ L.length ≤ 20 := by
  unfold logB
  simp only [Bool.and_eq_true, decide_eq_true_eq, List.all_eq_true]
/-- a short log has nothing more to leave out -/
theorem sh_facts {L : List (Int × Int)} (h : logB L = true) : logB (shR L) = true ∧ shR (shR L) = shR L ∧ (L.length - (shR L).length) % 2 = 0 ∧ (shR L).length ≤ L.length := by
  have e : shR L = shL L := by unfold shR; rw [if_pos h]
  obtain ⟨h1, h2⟩ := logB_iff.1 h
  have hl := shL_le L
  have hb : logB (shL L) = true := logB_iff.2 ⟨fun c hc => by
    rcases sh_mem L [] c hc with h | h
    · cases h
    · exact h1 c h, by omega⟩
  have hev := sh_even L []
  rw [e]
  refine ⟨hb, ?_, ?_, hl⟩
  · unfold shR; rw [if_pos hb]; exact shL_twice L
  · simp only [List.length_nil, Nat.zero_add] at hev
    have : L.foldl shS [] = shL L := rfl
    rw [this] at hev
    omega

/-! twists of inverse logs -/
def tw1 (c : Int × Int) : Int := if c.1 = 2 ∨ c.1 = 3 then c.2 else 1
def prT : List (Int × Int) → Int
  | [] => 1
  | c :: L => tw1 c * prT L
theorem prT_app : ∀ (L M : List (Int × Int)), prT (L ++ M) = prT L * prT M
  | [], M => by simp [prT]
  | c :: L, M => by simp only [List.cons_append, prT, prT_app L M, Int.mul_assoc]
theorem tw1_und {c : Int × Int} (h : 0 ≤ c.1 ∧ c.1 ≤ 3) : tw1 (und c) = tw1 c := by
  obtain ⟨k, v⟩ := c
  simp only at h
  rcases (by omega : k = 0 ∨ k = 1 ∨ k = 2 ∨ k = 3) with rfl | rfl | rfl | rfl <;> simp [tw1, und, undK]
theorem prT_inv : ∀ (L : List (Int × Int)), (∀ c ∈ L, 0 ≤ c.1 ∧ c.1 ≤ 3) → prT (invL L) = prT L
  | [], _ => rfl
  | c :: L, h => by
    have e : invL (c :: L) = invL L ++ [und c] := by simp [invL]
    rw [e, prT_app, prT_inv L (fun d hd => h d (by simp [hd]))]
    simp only [prT, tw1_und (h c (by simp)), Int.mul_one]
    exact Int.mul_comm _ _
theorem tol_prod : ∀ (L : List (Int × Int)) (d : Int), Tw30 d → (∀ c ∈ L, stepB c.1 c.2 = true) → Tw30 (L.foldl tolF d) ∧ ∃ h : Nat, 1 ≤ h ∧ d * prT L = L.foldl tolF d * ((h : Int) * h)
  | [], d, hd, _ => ⟨hd, 1, Nat.le_refl _, by simp [prT]⟩
  | c :: L, d, hd, hs => by
    have hc := hs c (by simp)
    have hr := fun x hx => hs x (List.mem_cons_of_mem c hx)
    by_cases hk : c.1 = 2 ∨ c.1 = 3
    · obtain ⟨ht, hb⟩ : Tw30 c.2 ∧ c.2.natAbs ≤ 30 := by
        rcases stepB_tw hc with h | h | ⟨_, h⟩
        · omega
        · omega
        · exact h
      obtain ⟨h1, g, ⟨_, hg, _⟩, he, _⟩ := hd.step ht hb
      obtain ⟨h2, h, hh, h3⟩ := tol_prod L (tlStep d c.2) h1 hr
      have ef : tolF d c = tlStep d c.2 := by unfold tolF; rw [if_pos hk]
      have et : tw1 c = c.2 := by unfold tw1; rw [if_pos hk]
      rw [List.foldl_cons, ef]
      refine ⟨h2, g * h, Nat.mul_pos hg hh, ?_⟩
      simp only [prT, et]
      generalize L.foldl tolF (tlStep d c.2) = R at *
      rw [← Int.mul_assoc, he, Int.natCast_mul]
      calc tlStep d c.2 * ((g : Int) * g) * prT L = tlStep d c.2 * prT L * ((g : Int) * g) := by ac_rfl
        _ = R * ((h : Int) * h) * ((g : Int) * g) := by rw [h3]
        _ = _ := by ac_rfl
    · have ef : tolF d c = d := by unfold tolF; rw [if_neg hk]
      have et : tw1 c = 1 := by unfold tw1; rw [if_neg hk]
      rw [List.foldl_cons, ef]
      simp only [prT, et, Int.one_mul]
      exact tol_prod L d hd hr
theorem sq_one {m m' a b : Nat} (hm : SqN m) (hb : 1 ≤ b) (hc : Nat.Coprime a b) (h : m * (a * a) = m' * (b * b)) : b = 1 := by
  have h1 : b * b ∣ m * (a * a) := ⟨m', by rw [h, Nat.mul_comm]⟩
  have h2 : Nat.Coprime (b * b) (a * a) := Nat.Coprime.mul_left (Nat.Coprime.mul_right hc.symm hc.symm) (Nat.Coprime.mul_right hc.symm hc.symm)
  have h3 := h2.dvd_of_dvd_mul_right h1
  rcases Nat.lt_or_ge b 2 with h4 | h4
  · omega
  · exact absurd h3 (hm b h4)
theorem sqf_uniq {r s : Int} {h k : Nat} (hr : SqN r.natAbs) (hs : SqN s.natAbs) (hh : 1 ≤ h) (hk : 1 ≤ k) (e : r * ((h : Int) * h) = s * ((k : Int) * k)) : r = s := by
  have en : r.natAbs * (h * h) = s.natAbs * (k * k) := by
    have := congrArg Int.natAbs e
    simpa [Int.natAbs_mul] using this
  have hg : 0 < Nat.gcd h k := Nat.gcd_pos_of_pos_left _ hh
  have hco := Nat.coprime_div_gcd_div_gcd hg
  obtain ⟨a, ha⟩ := Nat.gcd_dvd_left h k
  obtain ⟨b, hb⟩ := Nat.gcd_dvd_right h k
  generalize Nat.gcd h k = g at *
  have ea : h / g = a := by rw [ha]; exact Nat.mul_div_cancel_left a hg
  have eb : k / g = b := by rw [hb]; exact Nat.mul_div_cancel_left b hg
  rw [ea, eb] at hco
  have ha1 : 1 ≤ a := by
    rcases Nat.eq_zero_or_pos a with rfl | h'
    · simp at ha; omega
    · exact h'
  have hb1 : 1 ≤ b := by
    rcases Nat.eq_zero_or_pos b with rfl | h'
    · simp at hb; omega
    · exact h'
  have e2 : r.natAbs * (a * a) = s.natAbs * (b * b) := by
    have h0 : (g * g) * (r.natAbs * (a * a)) = (g * g) * (s.natAbs * (b * b)) := by
      rw [ha, hb] at en
      calc (g * g) * (r.natAbs * (a * a)) = r.natAbs * (g * a * (g * a)) := by ac_rfl
        _ = s.natAbs * (g * b * (g * b)) := en
        _ = _ := by ac_rfl
    exact Nat.eq_of_mul_eq_mul_left (Nat.mul_pos hg hg) h0
  have b1 := sq_one hr hb1 hco e2
  have a1 := sq_one hs ha1 hco.symm e2.symm
  have hkk : h = k := by rw [ha, hb, a1, b1]
  subst hkk
  have hne : ((h : Int) * h) ≠ 0 := by
    intro h0
    simp only [Int.mul_eq_zero] at h0
    omega
  exact Int.eq_of_mul_eq_mul_right hne e
theorem stepB_k03 {k v : Int} (h : stepB k v = true) : 0 ≤ k ∧ k ≤ 3 := by
  rcases stepB_cases h with ⟨h, _⟩ | ⟨h, _⟩ | ⟨h, _⟩ | ⟨h, _⟩ <;> omega
theorem stepB_und {k v : Int} (h : stepB k v = true) : stepB (undK k) v = true := by
  have := stepB_k03 h
  unfold stepB at h ⊢
  rcases (by omega : k = 0 ∨ k = 1 ∨ k = 2 ∨ k = 3) with rfl | rfl | rfl | rfl <;> simpa [undK] using h
theorem inv_log {L : List (Int × Int)} (h : logB L = true) : logB (invL L) = true := by
  obtain ⟨h1, h2⟩ := logB_iff.1 h
  refine logB_iff.2 ⟨fun c hc => ?_, by simpa [invL] using h2⟩
  simp only [invL, List.mem_map, List.mem_reverse] at hc
  obtain ⟨d, hd, rfl⟩ := hc
  exact stepB_und (h1 d hd)
theorem tol_inv {L : List (Int × Int)} (h : logB L = true) : tolL (invL L) = tolL L ∧ tolL L ≠ 0 := by
  obtain ⟨h1, _⟩ := logB_iff.1 h
  obtain ⟨h3, _⟩ := logB_iff.1 (inv_log h)
  obtain ⟨a1, x, hx, ex⟩ := tol_prod L 1 Tw30.one h1
  obtain ⟨b1, y, hy, ey⟩ := tol_prod (invL L) 1 Tw30.one h3
  rw [prT_inv L (fun c hc => stepB_k03 (h1 c hc)), ex] at ey
  exact ⟨(sqf_uniq a1.1 b1.1 hx hy ey).symm, a1.bd.1⟩
theorem tol_facts {L : List (Int × Int)} (h : toO L = true) : toO (ivL L) = true ∧ toV (ivL L) = toV L ∧ toV L ≠ 0 ∧ logB L = true := by
  have hl : logB L = true := by unfold toO at h; simp only [Bool.and_eq_true] at h; exact h.1
  obtain ⟨h1, h2⟩ := tol_inv hl
  have e : ivL L = invL L := by unfold ivL; rw [if_pos hl]
  have ho : toO (invL L) = true := by
    unfold toO at h ⊢
    rw [inv_log hl, h1]
    rw [hl] at h
    exact h
  rw [e]
  refine ⟨ho, ?_, ?_, hl⟩
  · unfold toV; rw [ho, h, h1]
  · unfold toV; rw [h]; exact h2

/-! logs to smallest models -/
theorem sp_all : spL 1 = [] ∧ spL 2 = [(1, 2)] ∧ spL 3 = [(1, 3)] ∧ spL 4 = [(1, 2), (1, 2)] ∧ spL 5 = [(1, 5)] := by decide +kernel
theorem step1 {v : Int} (h : 2 ≤ v ∧ v ≤ 5) : stepB 1 v = true := by
  unfold stepB inB
  simp [h.1, h.2]
theorem slRes_to {A B : Int} (h : curveB A B = true) : ccO (A, B) (slRes A B) = true ∧ rpE A B (slRes A B) = (sm4 A (smU A B), sm6 B (smU A B)) := by
  have hu := smU_bd A B
  have hd : dvB A B (smU A B) = true := bestF_dv A B 4
  have e : slRes A B = spL (smU A B) := by unfold slRes; rw [if_pos h]
  obtain ⟨s1, s2, s3, s4, s5⟩ := sp_all
  have key : ∀ L, spL (smU A B) = L → logB L = true → crO (A, B) L = true → crE (A, B) L = (sm4 A (smU A B), sm6 B (smU A B)) → ccO (A, B) (slRes A B) = true ∧ rpE A B (slRes A B) = (sm4 A (smU A B), sm6 B (smU A B)) := by
    intro L hL h1 h2 h3
    have hc : ccO (A, B) L = true := by unfold ccO; simp only [h, h1, h2, Bool.and_self]
    rw [e, hL]
    refine ⟨hc, ?_⟩
    unfold rpE
    rw [if_pos hc, h3]
  have lg : ∀ L : List (Int × Int), (∀ c ∈ L, c.1 = 1 ∧ 2 ≤ c.2 ∧ c.2 ≤ 5) → L.length ≤ 20 → logB L = true := fun L hL hn => logB_iff.2 ⟨fun c hc => by
    obtain ⟨x, y⟩ := c
    obtain ⟨h1, h2⟩ := hL _ hc
    simp only at h1 h2
    subst h1
    exact step1 h2, hn⟩
  have one : ∀ v : Int, dvB A B v = true → crO (A, B) [(1, v)] = true := fun v hv => by
    simp [crO, okS, apOk, hv]
  rcases (by omega : smU A B = 1 ∨ smU A B = 2 ∨ smU A B = 3 ∨ smU A B = 4 ∨ smU A B = 5) with hq | hq | hq | hq | hq
  · refine key [] (by rw [hq]; exact s1) (lg _ (by simp) (by simp)) rfl ?_
    rw [hq]; simp [crE, sm4, sm6]
  · rw [hq] at hd
    refine key [(1, 2)] (by rw [hq]; exact s2) (lg _ (by simp) (by simp)) (one 2 hd) ?_
    rw [hq]; simp [crE, stC, apA, apB, sm4, sm6]
  · rw [hq] at hd
    refine key [(1, 3)] (by rw [hq]; exact s3) (lg _ (by simp) (by simp)) (one 3 hd) ?_
    rw [hq]; simp [crE, stC, apA, apB, sm4, sm6]
  · rw [hq] at hd
    have hd4 := hd
    unfold dvB at hd4
    simp only [Bool.and_eq_true, beq_iff_eq] at hd4
    obtain ⟨d1, d2⟩ := hd4
    simp only [show (4 : Int) * 4 * 4 * 4 = 256 by decide, show (256 : Int) * 4 * 4 = 4096 by decide] at d1 d2
    have x1 : dvB A B 2 = true := by
      unfold dvB
      simp only [Bool.and_eq_true, beq_iff_eq, show (2 : Int) * 2 * 2 * 2 = 16 by decide, show (16 : Int) * 2 * 2 = 64 by decide]
      omega
    have x2 : dvB (A / (2 * 2 * 2 * 2)) (B / (2 * 2 * 2 * 2 * 2 * 2)) 2 = true := by
      unfold dvB
      simp only [Bool.and_eq_true, beq_iff_eq, show (2 : Int) * 2 * 2 * 2 = 16 by decide, show (16 : Int) * 2 * 2 = 64 by decide]
      omega
    refine key [(1, 2), (1, 2)] (by rw [hq]; exact s4) (lg _ (by simp) (by simp)) ?_ ?_
    · simp only [crO, okS, stC, apOk, apA, apB, show ¬ ((1 : Int) = 0) by decide, if_false, if_true, x1, x2, Bool.and_self]
    · rw [hq]
      simp only [crE, List.foldl_cons, List.foldl_nil, stC, apA, apB, sm4, sm6, show ¬ ((1 : Int) = 0) by decide, if_false, if_true, show (2 : Int) * 2 * 2 * 2 = 16 by decide, show (16 : Int) * 2 * 2 = 64 by decide, show (4 : Int) * 4 * 4 * 4 = 256 by decide, show (256 : Int) * 4 * 4 = 4096 by decide]
      rw [Prod.mk.injEq]
      omega
  · rw [hq] at hd
    refine key [(1, 5)] (by rw [hq]; exact s5) (lg _ (by simp) (by simp)) (one 5 hd) ?_
    rw [hq]; simp [crE, stC, apA, apB, sm4, sm6]
end Go.Proofs.YtpnpidepkfnofaaGreatDoor

/- Stv -/
namespace Go.Proofs.YtpnpidepkfnofaaGreatDoor
open Go.RowKit

section
variable {P : Program} {ops : Array Oper} {Q : Exit → Act → World → Prop} {ex : List Nat} {W : World} {D : World → Prop}
/-- an operation that leaves a value and a world, both known up to a predicate -/
theorem stepC_val {a : Act} {listed : Array Bool} {f i : Nat} {o : Oper} (dd : Option Tmp) (D' : Value → World → Prop) (ho : ops[i]? = some o) (hw : Region.wanted o (yielded ops a.tmps) = true)
    (hdd : o.dst = dd) (hD' : ∀ v, Closed (D' v))
    (hrun : ∀ w, Over ex W w → D w → ∃ v w', (execOp a.eval o).run P w = .ok (.value v) w' ∧ Over ex w w' ∧ D' v w')
    (h : ∀ v, (∃ w, Over ex W w ∧ D' v w) → wpAnyF P ops Q ex W (fun _ => false) f (listed.setIfInBounds i true) (a.put dd v) (fun _ => True) (D' v)) :
    StepF P ops Q ex W (fun _ => false) f listed a (fun _ => True) D i := fun w hO hd => by
  unfold wpOp
  simp only [ho, hw, if_true]
  refine .inl ?_
  obtain ⟨v, w', h1, h2, h3⟩ := hrun w hO hd
  unfold Oper.wp
  rw [h1]
  simp only [Oper.upon]
  rw [hdd]
  exact ⟨fun _ => True, D' v, hD' v, fun _ _ => trivial, fun _ => rfl, hO.trans h2, h3, h v ⟨w', hO.trans h2, h3⟩⟩
end
end Go.Proofs.YtpnpidepkfnofaaGreatDoor

/- DrH -/
namespace Go.Proofs.YtpnpidepkfnofaaGreatDoor
open Go.RowKit

def scO (a b y : Int) : Bool := curveB (a * y * y * y * y) (b * y * y * y * y * y * y)
def scA (a b y : Int) : Int := rs (scO a b y) (a * y * y * y * y)
def scB (a b y : Int) : Int := rs (scO a b y) (b * y * y * y * y * y * y)
theorem sc_good {a b y : Int} (h : scO a b y = true) : curveB (scA a b y) (scB a b y) = true := by
  have h' := h
  unfold scA scB
  rw [h]
  exact h'
def am5 : List Int := [2, 2, 3, 4, 5]
theorem am5_in {y : Int} (h : y ∈ am5) : inB y 1 5 = true := by
  simp only [am5, List.mem_cons, List.not_mem_nil, or_false] at h
  rcases h with rfl | rfl | rfl | rfl | rfl <;> decide
/-- a curve, drawn by a function -/
def CurveOut (w : World) (e : Ending) (w' : World) : Prop :=
  ∃ a b : Int, e = .returned (.agg #[.int .i64 a, .int .i64 b]) ∧ In64 a b ∧ Below w.heap.size w w'
set_option maxHeartbeats 4000000 in
theorem d_drawSmallest (v : Value) (xs : List Int) (w : World) (h : RdB w w.heap.size v xs) : Calls Tryz.prog 12 #[v] w (CurveOut w) := by
  have d1 := Dr.make1 h #[.int .i64 0, .int .i64 0] 33
  obtain ⟨a0, cap, rfl, _⟩ := h
  go_enter Tryz.func12, Tryz.ntmps12
  go_wp2_with fail
  generalize (w.alloc _).alloc _ = W0 at d1 ⊢
  have hlk : w.heap.size < w.heap.size + 1 := by omega
  generalize w.heap.size + 1 = k at d1 hlk ⊢
  refine (d_twistable d1 (by omega)).mono ?_
  rintro e w2 ⟨a, b, rfl, hab, d2⟩
  have d3 := d2.alloc #[.int .i64 a, .int .i64 b] 33
  clear d1 d2
  go_upto_region 3 with (fail)
  generalize w2.alloc _ = W3 at d3 ⊢
  generalize w2.heap.size = E at d3 ⊢
  obtain ⟨c0, c1, z0, z1⟩ := d3.two
  go_wp2_with fail
  refine (c_ecGood a b _).mono ?_
  rintro e w4 ⟨rfl, hb4⟩
  have d4 := d3.below hb4
  clear d3 c0 c1 z0 z1 hb4
  cases hC : curveB a b
  · obtain ⟨z0, z1, z2, z3⟩ := (d4).two
    obtain ⟨y0, y1, y2, y3⟩ := (d4).swap.two
    have e2 := (d4).swap.s01 (.int .i64 a) (.int .i64 b)
    go_wp2
    generalize (World.setCell (World.setCell _ _ _) _ _) = w16 at e2 ⊢
    obtain ⟨q0, q1, _, _⟩ := e2.two
    refine bodyPost_ret (v := .agg #[.int .i64 a, .int .i64 b]) (by simp [results, Tryz.results12, go_sem, q0, q1]) rfl ?_
    exact ⟨_, _, rfl, hab, e2.tail.tail.out⟩
  · go_wp2_with fail
    refine (d_one d4 (by omega) 3 (by omega)).mono ?_
    rintro e w5 ⟨q, rfl, d5⟩
    clear d4
    cases q
    · go_wp2_with fail
      refine (d_pick d5 (by omega) 2 (by omega)).mono ?_
      rintro e w6 ⟨n0, rfl, hn0, d6⟩
      simp only [show ¬ ((2 : Int) ≤ 1) by omega, if_false] at hn0
      clear d5
      go_wp2
      go_loopw [5] (fun t wr => ∃ (a b : Int) (m : Nat), t = .int .i64 m ∧ m ≤ 2 ∧ curveB a b = true ∧ Dr w.heap.size k (.slice a0 xs.length cap) xs (200 - 10 * m) w [(E, #[.int .i64 a, .int .i64 b], 33), (w.heap.size, #[.int .i64 0, .int .i64 0], 33)] wr) (fun t _ => (intOf t).toNat)
      case atStart => exact ⟨a, b, (1 + n0).toNat, by rw [Int.toNat_of_nonneg (by omega)], by omega, hC, d6.le (by omega)⟩
      case round =>
        clear hC hab d6
        obtain ⟨a, b, m, rfl, hm, hC, dr⟩ := hrel
        by_cases hgo : (0 : Int) < m
        · go_upto_region 7 with (fail)
          have hSl := dr.tail.head.lt
          have hEl := dr.head.lt
          have hEk := (dr.far _ (List.mem_cons_self ..)).1
          simp only at hEk
          obtain ⟨c0, c1, _, _⟩ := dr.two
          refine wp_region_cls [k] (fun _ => false) (fun _ => True) (Dr w.heap.size k (.slice a0 xs.length cap) xs (200 - 10 * m) w ([(E, #[.int .i64 a, .int .i64 b], 33), (w.heap.size, #[.int .i64 0, .int .i64 0], 33)])) (by kernel_rfl) (dr.below ((Below.refl _ _).drew)) ?_
          apply wpAnyF_hd ⟨wr.drew, (Over.refl _ _).drew, dr.below ((Below.refl _ _).drew)⟩ [true, true] 9 (fun _ _ h hb => h.below hb) (fun _ _ => trivial) (by kernel_rfl) (by kernel_rfl) (by kernel_rfl) (by kernel_rfl) (by simp)
          · intro E hE hEN hEn; (repeat (first | (refine wpHL_take ?_; go_big_quiet_step (fail); refine wpQuiet_nil ?_) | refine wpHL_skip ?_)); exact wpHL_end rfl
          refine wpAnyF_ready [2, 8] 8 (by kernel_rfl) (by kernel_rfl) (by simp) ?_
          refine AllF.cons ?_ ?_
          · refine stepC_val (some 30) (fun u w' => ∃ s : Nat, u = .slice (some ⟨s, 0, none⟩) 5 5 ∧ Dr w.heap.size k (.slice a0 xs.length cap) xs (200 - 10 * m) w ((s, (am5.map (Value.int .i64)).toArray, 3) :: [(E, #[.int .i64 a, .int .i64 b], 33), (w.heap.size, #[.int .i64 0, .int .i64 0], 33)]) w') (by rfl) (by rfl) (by rfl) (fun _ _ _ ⟨s, h, d⟩ hb => ⟨s, h, d.below hb⟩) (fun w' hO hD => ⟨.slice (some ⟨w'.heap.size, 0, none⟩) 5 5, w'.alloc (.cells (am5.map (Value.int .i64)).toArray 3), (by unfold execOp; simp [go_sem, am5]), (Over.refl _ _).alloc _, ⟨w'.heap.size, rfl, hD.alloc _ _⟩⟩) (fun u hne => ?_)
            simp only [Act.put, List.setIfInBounds_toArray, List.set_cons_succ, List.set_cons_zero]
            obtain ⟨w9, hO9, s, rfl, hd9⟩ := hne
            refine wpAnyF_weaken (D2 := Dr w.heap.size k (.slice a0 xs.length cap) xs (200 - 10 * m) w ((s, (am5.map (Value.int .i64)).toArray, 3) :: [(E, #[.int .i64 a, .int .i64 b], 33), (w.heap.size, #[.int .i64 0, .int .i64 0], 33)])) (fun w' ⟨r', hr', d⟩ => by cases hr'; exact d) ?_
            have hne : ∃ w1, Over [k] wr w1 ∧ Dr w.heap.size k (.slice a0 xs.length cap) xs (200 - 10 * m) w ((s, (am5.map (Value.int .i64)).toArray, 3) :: [(E, #[.int .i64 a, .int .i64 b], 33), (w.heap.size, #[.int .i64 0, .int .i64 0], 33)]) w1 := ⟨w9, hO9, hd9⟩
            clear hO9 hd9
            refine wpAnyF_ready [3, 8] 7 (by kernel_rfl) (by kernel_rfl) (by simp) ?_
            refine AllF.cons ?_ ?_
            · refine stepC_calle (some 31) (fun u w' => ∃ y : Int, u = .int .i64 y ∧ y ∈ am5 ∧ Dr w.heap.size k (.slice a0 xs.length cap) xs (200 - 10 * m + 2) w ((s, (am5.map (Value.int .i64)).toArray, 3) :: [(E, #[.int .i64 a, .int .i64 b], 33), (w.heap.size, #[.int .i64 0, .int .i64 0], 33)]) w') (by rfl) (by rfl) (by rfl) (fun _ => by go_simp; rfl) (fun _ _ _ ⟨y, h, hy, d⟩ hb => ⟨y, h, hy, d.below hb⟩) (fun w' hO hD => (c_among _ _ _ _ _ (by omega) am5 (by simp [am5]) s (hD.far (s, (am5.map (Value.int .i64)).toArray, 3) (by simp)).1 w' hD.cur (hD.mem (s, (am5.map (Value.int .i64)).toArray, 3) (by simp))).mono fun e w2 ⟨y, hy, he, h4, h5⟩ => ⟨_, he, h5, ⟨y, rfl, hy, hD.go h4 h5⟩⟩) (fun u hne => ?_)
              simp only [Act.put, List.setIfInBounds_toArray, List.set_cons_succ, List.set_cons_zero]
              obtain ⟨w9, hO9, y, rfl, hy, hd9⟩ := hne
              refine wpAnyF_weaken (D2 := Dr w.heap.size k (.slice a0 xs.length cap) xs (200 - 10 * m + 2) w ((s, (am5.map (Value.int .i64)).toArray, 3) :: [(E, #[.int .i64 a, .int .i64 b], 33), (w.heap.size, #[.int .i64 0, .int .i64 0], 33)])) (fun w' ⟨r', hr', _, d⟩ => d) ?_
              have hne : ∃ w1, Over [k] wr w1 ∧ Dr w.heap.size k (.slice a0 xs.length cap) xs (200 - 10 * m + 2) w ((s, (am5.map (Value.int .i64)).toArray, 3) :: [(E, #[.int .i64 a, .int .i64 b], 33), (w.heap.size, #[.int .i64 0, .int .i64 0], 33)]) w1 := ⟨w9, hO9, hd9⟩
              clear hO9 hd9
              refine wpAnyF_ready [4, 8] 6 (by kernel_rfl) (by kernel_rfl) (by simp) ?_
              refine AllF.cons ?_ ?_
              · refine stepC_call (v := .tuple #[.agg #[.int .i64 (scA a b y), .int .i64 (scB a b y)], .bool (scO a b y)]) (some 32) (Dr w.heap.size k (.slice a0 xs.length cap) xs (200 - 10 * m + 2) w ((s, (am5.map (Value.int .i64)).toArray, 3) :: [(E, #[.int .i64 a, .int .i64 b], 33), (w.heap.size, #[.int .i64 0, .int .i64 0], 33)])) (by rfl) (by rfl) (by rfl) (fun _ => by go_simp) (fun _ _ h hb => h.below hb) (fun w' hO hD => (c_sScale a b y hC (am5_in hy) w').mono fun e w2 ⟨he, hb⟩ => ⟨he, .of_below hb, hD.below hb⟩) (fun hne => ?_)
                simp only [Act.put, List.setIfInBounds_toArray, List.set_cons_succ, List.set_cons_zero]
                apply wpAnyF_hd hne [false, false, false, false, false, true, true, true] 3 (fun _ _ h hb => h.below hb) (fun _ _ => trivial) (by kernel_rfl) (by kernel_rfl) (by kernel_rfl) (by kernel_rfl) (by simp)
                · intro E hE hEN hEn; (repeat (first | (refine wpHL_take ?_; go_big_quiet_step (fail); refine wpQuiet_nil ?_) | refine wpHL_skip ?_)); exact wpHL_end rfl
                refine wpAnyF_ready [8] 2 (by kernel_rfl) (by kernel_rfl) (by simp) ?_
                refine AllF.cons ?_ ?_
                · refine stepC_val (some 6) (fun u w' => ∃ r : Nat, u = .pointer (some ⟨r, 0, none⟩) ∧ wr.heap.size ≤ r ∧ Dr w.heap.size k (.slice a0 xs.length cap) xs (200 - 10 * m + 2) w ((r, #[.int .i64 0, .int .i64 0], 33) :: (s, (am5.map (Value.int .i64)).toArray, 3) :: [(E, #[.int .i64 a, .int .i64 b], 33), (w.heap.size, #[.int .i64 0, .int .i64 0], 33)]) w') (by rfl) (by rfl) (by rfl) (fun _ _ _ ⟨s, h, q, d⟩ hb => ⟨s, h, q, d.below hb⟩) (fun w' hO hD => ⟨.pointer (some ⟨w'.heap.size, 0, none⟩), w'.alloc (.cells #[.int .i64 0, .int .i64 0] 33), (by go_simp), (Over.refl _ _).alloc _, ⟨w'.heap.size, rfl, hO.size, hD.alloc _ _⟩⟩) (fun u hne => ?_)
                  simp only [Act.put, List.setIfInBounds_toArray, List.set_cons_succ, List.set_cons_zero]
                  obtain ⟨w9, hO9, r, rfl, hr, hd9⟩ := hne
                  refine wpAnyF_weaken (D2 := Dr w.heap.size k (.slice a0 xs.length cap) xs (200 - 10 * m + 2) w ((r, #[.int .i64 0, .int .i64 0], 33) :: (s, (am5.map (Value.int .i64)).toArray, 3) :: [(E, #[.int .i64 a, .int .i64 b], 33), (w.heap.size, #[.int .i64 0, .int .i64 0], 33)])) (fun w' ⟨r', hr', _, d⟩ => by cases hr'; exact d) ?_
                  have hne : ∃ w1, Over [k] wr w1 ∧ Dr w.heap.size k (.slice a0 xs.length cap) xs (200 - 10 * m + 2) w ((r, #[.int .i64 0, .int .i64 0], 33) :: (s, (am5.map (Value.int .i64)).toArray, 3) :: [(E, #[.int .i64 a, .int .i64 b], 33), (w.heap.size, #[.int .i64 0, .int .i64 0], 33)]) w1 := ⟨w9, hO9, hd9⟩
                  clear hO9 hd9
                  refine wpAnyF_ready [9] 1 (by kernel_rfl) (by kernel_rfl) (by simp) ?_
                  refine AllF.cons ?_ ?_
                  · refine stepC_store (v := .agg #[.int .i64 (scA a b y), .int .i64 (scB a b y)]) r #[.int .i64 0, .int .i64 0] (Dr w.heap.size k (.slice a0 xs.length cap) xs (200 - 10 * m + 2) w ((r, #[.int .i64 (scA a b y), .int .i64 (scB a b y)], 33) :: (s, (am5.map (Value.int .i64)).toArray, 3) :: [(E, #[.int .i64 a, .int .i64 b], 33), (w.heap.size, #[.int .i64 0, .int .i64 0], 33)])) (by rfl) (by rfl) (by rfl) (by rfl) (by rfl) (by rfl) (fun _ => by go_simp) (by rfl) (by simp [Value.cells, one1]) (.inl hr) (fun _ hd => hd.head) (fun _ _ h hb => h.below hb) (fun _ _ hd ho hb => hd.stored ho hb) (fun hne => ?_)
                    try simp only [Value.cells]
                    apply wpAnyF_hd hne [false, false, false, false, false, false, false, false, false, false, true] 0 (fun _ _ h hb => h.below hb) (fun _ _ => trivial) (by kernel_rfl) (by kernel_rfl) (by kernel_rfl) (by kernel_rfl) (by simp)
                    · intro E hE hEN hEn; (repeat (first | (refine wpHL_take ?_; go_big_quiet_step (fail); refine wpQuiet_nil ?_) | refine wpHL_skip ?_)); exact wpHL_end rfl
                    refine wpAnyF_done (by kernel_rfl) (fun Wz hOz hDz => NoPanic.normal ?_) _
                    try dsimp only
                    have dz := hDz
                    obtain ⟨q0, q1, q2, q3⟩ := dz.two
                    obtain ⟨y0, y1, y2, y3⟩ := dz.tail.tail.two
                    cases hq : scO a b y
                    · go_wp2
                      go_roundw
                      case rel => exact ⟨a, b, m - 1, by go_num, by omega, hC, dz.tail.tail.le (by omega)⟩
                      case measure => simp [intOf]; omega
                    · have dy := dz.tail.tail.s01 (.int .i64 (scA a b y)) (.int .i64 (scB a b y))
                      go_wp2
                      go_roundw
                      case rel => exact ⟨_, _, m - 1, by go_num, by omega, sc_good hq, dy.le (by omega)⟩
                      case measure => simp [intOf]; omega
                  exact AllF.nil
                exact AllF.nil
              refine AllF.cons ?_ ?_
              · refine stepC_val (some 6) (fun u w' => ∃ r : Nat, u = .pointer (some ⟨r, 0, none⟩) ∧ wr.heap.size ≤ r ∧ Dr w.heap.size k (.slice a0 xs.length cap) xs (200 - 10 * m + 2) w ((r, #[.int .i64 0, .int .i64 0], 33) :: (s, (am5.map (Value.int .i64)).toArray, 3) :: [(E, #[.int .i64 a, .int .i64 b], 33), (w.heap.size, #[.int .i64 0, .int .i64 0], 33)]) w') (by rfl) (by rfl) (by rfl) (fun _ _ _ ⟨s, h, q, d⟩ hb => ⟨s, h, q, d.below hb⟩) (fun w' hO hD => ⟨.pointer (some ⟨w'.heap.size, 0, none⟩), w'.alloc (.cells #[.int .i64 0, .int .i64 0] 33), (by go_simp), (Over.refl _ _).alloc _, ⟨w'.heap.size, rfl, hO.size, hD.alloc _ _⟩⟩) (fun u hne => ?_)
                simp only [Act.put, List.setIfInBounds_toArray, List.set_cons_succ, List.set_cons_zero]
                obtain ⟨w9, hO9, r, rfl, hr, hd9⟩ := hne
                refine wpAnyF_weaken (D2 := Dr w.heap.size k (.slice a0 xs.length cap) xs (200 - 10 * m + 2) w ((r, #[.int .i64 0, .int .i64 0], 33) :: (s, (am5.map (Value.int .i64)).toArray, 3) :: [(E, #[.int .i64 a, .int .i64 b], 33), (w.heap.size, #[.int .i64 0, .int .i64 0], 33)])) (fun w' ⟨r', hr', _, d⟩ => by cases hr'; exact d) ?_
                have hne : ∃ w1, Over [k] wr w1 ∧ Dr w.heap.size k (.slice a0 xs.length cap) xs (200 - 10 * m + 2) w ((r, #[.int .i64 0, .int .i64 0], 33) :: (s, (am5.map (Value.int .i64)).toArray, 3) :: [(E, #[.int .i64 a, .int .i64 b], 33), (w.heap.size, #[.int .i64 0, .int .i64 0], 33)]) w1 := ⟨w9, hO9, hd9⟩
                clear hO9 hd9
                refine wpAnyF_ready [4] 5 (by kernel_rfl) (by kernel_rfl) (by simp) ?_
                refine AllF.cons ?_ ?_
                · refine stepC_call (v := .tuple #[.agg #[.int .i64 (scA a b y), .int .i64 (scB a b y)], .bool (scO a b y)]) (some 32) (Dr w.heap.size k (.slice a0 xs.length cap) xs (200 - 10 * m + 2) w ((r, #[.int .i64 0, .int .i64 0], 33) :: (s, (am5.map (Value.int .i64)).toArray, 3) :: [(E, #[.int .i64 a, .int .i64 b], 33), (w.heap.size, #[.int .i64 0, .int .i64 0], 33)])) (by rfl) (by rfl) (by rfl) (fun _ => by go_simp) (fun _ _ h hb => h.below hb) (fun w' hO hD => (c_sScale a b y hC (am5_in hy) w').mono fun e w2 ⟨he, hb⟩ => ⟨he, .of_below hb, hD.below hb⟩) (fun hne => ?_)
                  simp only [Act.put, List.setIfInBounds_toArray, List.set_cons_succ, List.set_cons_zero]
                  apply wpAnyF_hd hne [false, false, false, false, false, true, true, true] 2 (fun _ _ h hb => h.below hb) (fun _ _ => trivial) (by kernel_rfl) (by kernel_rfl) (by kernel_rfl) (by kernel_rfl) (by simp)
                  · intro E hE hEN hEn; (repeat (first | (refine wpHL_take ?_; go_big_quiet_step (fail); refine wpQuiet_nil ?_) | refine wpHL_skip ?_)); exact wpHL_end rfl
                  refine wpAnyF_ready [9] 1 (by kernel_rfl) (by kernel_rfl) (by simp) ?_
                  refine AllF.cons ?_ ?_
                  · refine stepC_store (v := .agg #[.int .i64 (scA a b y), .int .i64 (scB a b y)]) r #[.int .i64 0, .int .i64 0] (Dr w.heap.size k (.slice a0 xs.length cap) xs (200 - 10 * m + 2) w ((r, #[.int .i64 (scA a b y), .int .i64 (scB a b y)], 33) :: (s, (am5.map (Value.int .i64)).toArray, 3) :: [(E, #[.int .i64 a, .int .i64 b], 33), (w.heap.size, #[.int .i64 0, .int .i64 0], 33)])) (by rfl) (by rfl) (by rfl) (by rfl) (by rfl) (by rfl) (fun _ => by go_simp) (by rfl) (by simp [Value.cells, one1]) (.inl hr) (fun _ hd => hd.head) (fun _ _ h hb => h.below hb) (fun _ _ hd ho hb => hd.stored ho hb) (fun hne => ?_)
                    try simp only [Value.cells]
                    apply wpAnyF_hd hne [false, false, false, false, false, false, false, false, false, false, true] 0 (fun _ _ h hb => h.below hb) (fun _ _ => trivial) (by kernel_rfl) (by kernel_rfl) (by kernel_rfl) (by kernel_rfl) (by simp)
                    · intro E hE hEN hEn; (repeat (first | (refine wpHL_take ?_; go_big_quiet_step (fail); refine wpQuiet_nil ?_) | refine wpHL_skip ?_)); exact wpHL_end rfl
                    refine wpAnyF_done (by kernel_rfl) (fun Wz hOz hDz => NoPanic.normal ?_) _
                    try dsimp only
                    have dz := hDz
                    obtain ⟨q0, q1, q2, q3⟩ := dz.two
                    obtain ⟨y0, y1, y2, y3⟩ := dz.tail.tail.two
                    cases hq : scO a b y
                    · go_wp2
                      go_roundw
                      case rel => exact ⟨a, b, m - 1, by go_num, by omega, hC, dz.tail.tail.le (by omega)⟩
                      case measure => simp [intOf]; omega
                    · have dy := dz.tail.tail.s01 (.int .i64 (scA a b y)) (.int .i64 (scB a b y))
                      go_wp2
                      go_roundw
                      case rel => exact ⟨_, _, m - 1, by go_num, by omega, sc_good hq, dy.le (by omega)⟩
                      case measure => simp [intOf]; omega
                  exact AllF.nil
                exact AllF.nil
              exact AllF.nil
            refine AllF.cons ?_ ?_
            · refine stepC_val (some 6) (fun u w' => ∃ r : Nat, u = .pointer (some ⟨r, 0, none⟩) ∧ wr.heap.size ≤ r ∧ Dr w.heap.size k (.slice a0 xs.length cap) xs (200 - 10 * m) w ((r, #[.int .i64 0, .int .i64 0], 33) :: (s, (am5.map (Value.int .i64)).toArray, 3) :: [(E, #[.int .i64 a, .int .i64 b], 33), (w.heap.size, #[.int .i64 0, .int .i64 0], 33)]) w') (by rfl) (by rfl) (by rfl) (fun _ _ _ ⟨s, h, q, d⟩ hb => ⟨s, h, q, d.below hb⟩) (fun w' hO hD => ⟨.pointer (some ⟨w'.heap.size, 0, none⟩), w'.alloc (.cells #[.int .i64 0, .int .i64 0] 33), (by go_simp), (Over.refl _ _).alloc _, ⟨w'.heap.size, rfl, hO.size, hD.alloc _ _⟩⟩) (fun u hne => ?_)
              simp only [Act.put, List.setIfInBounds_toArray, List.set_cons_succ, List.set_cons_zero]
              obtain ⟨w9, hO9, r, rfl, hr, hd9⟩ := hne
              refine wpAnyF_weaken (D2 := Dr w.heap.size k (.slice a0 xs.length cap) xs (200 - 10 * m) w ((r, #[.int .i64 0, .int .i64 0], 33) :: (s, (am5.map (Value.int .i64)).toArray, 3) :: [(E, #[.int .i64 a, .int .i64 b], 33), (w.heap.size, #[.int .i64 0, .int .i64 0], 33)])) (fun w' ⟨r', hr', _, d⟩ => by cases hr'; exact d) ?_
              have hne : ∃ w1, Over [k] wr w1 ∧ Dr w.heap.size k (.slice a0 xs.length cap) xs (200 - 10 * m) w ((r, #[.int .i64 0, .int .i64 0], 33) :: (s, (am5.map (Value.int .i64)).toArray, 3) :: [(E, #[.int .i64 a, .int .i64 b], 33), (w.heap.size, #[.int .i64 0, .int .i64 0], 33)]) w1 := ⟨w9, hO9, hd9⟩
              clear hO9 hd9
              refine wpAnyF_ready [3] 6 (by kernel_rfl) (by kernel_rfl) (by simp) ?_
              refine AllF.cons ?_ ?_
              · refine stepC_calle (some 31) (fun u w' => ∃ y : Int, u = .int .i64 y ∧ y ∈ am5 ∧ Dr w.heap.size k (.slice a0 xs.length cap) xs (200 - 10 * m + 2) w ((r, #[.int .i64 0, .int .i64 0], 33) :: (s, (am5.map (Value.int .i64)).toArray, 3) :: [(E, #[.int .i64 a, .int .i64 b], 33), (w.heap.size, #[.int .i64 0, .int .i64 0], 33)]) w') (by rfl) (by rfl) (by rfl) (fun _ => by go_simp; rfl) (fun _ _ _ ⟨y, h, hy, d⟩ hb => ⟨y, h, hy, d.below hb⟩) (fun w' hO hD => (c_among _ _ _ _ _ (by omega) am5 (by simp [am5]) s (hD.far (s, (am5.map (Value.int .i64)).toArray, 3) (by simp)).1 w' hD.cur (hD.mem (s, (am5.map (Value.int .i64)).toArray, 3) (by simp))).mono fun e w2 ⟨y, hy, he, h4, h5⟩ => ⟨_, he, h5, ⟨y, rfl, hy, hD.go h4 h5⟩⟩) (fun u hne => ?_)
                simp only [Act.put, List.setIfInBounds_toArray, List.set_cons_succ, List.set_cons_zero]
                obtain ⟨w9, hO9, y, rfl, hy, hd9⟩ := hne
                refine wpAnyF_weaken (D2 := Dr w.heap.size k (.slice a0 xs.length cap) xs (200 - 10 * m + 2) w ((r, #[.int .i64 0, .int .i64 0], 33) :: (s, (am5.map (Value.int .i64)).toArray, 3) :: [(E, #[.int .i64 a, .int .i64 b], 33), (w.heap.size, #[.int .i64 0, .int .i64 0], 33)])) (fun w' ⟨r', hr', _, d⟩ => d) ?_
                have hne : ∃ w1, Over [k] wr w1 ∧ Dr w.heap.size k (.slice a0 xs.length cap) xs (200 - 10 * m + 2) w ((r, #[.int .i64 0, .int .i64 0], 33) :: (s, (am5.map (Value.int .i64)).toArray, 3) :: [(E, #[.int .i64 a, .int .i64 b], 33), (w.heap.size, #[.int .i64 0, .int .i64 0], 33)]) w1 := ⟨w9, hO9, hd9⟩
                clear hO9 hd9
                refine wpAnyF_ready [4] 5 (by kernel_rfl) (by kernel_rfl) (by simp) ?_
                refine AllF.cons ?_ ?_
                · refine stepC_call (v := .tuple #[.agg #[.int .i64 (scA a b y), .int .i64 (scB a b y)], .bool (scO a b y)]) (some 32) (Dr w.heap.size k (.slice a0 xs.length cap) xs (200 - 10 * m + 2) w ((r, #[.int .i64 0, .int .i64 0], 33) :: (s, (am5.map (Value.int .i64)).toArray, 3) :: [(E, #[.int .i64 a, .int .i64 b], 33), (w.heap.size, #[.int .i64 0, .int .i64 0], 33)])) (by rfl) (by rfl) (by rfl) (fun _ => by go_simp) (fun _ _ h hb => h.below hb) (fun w' hO hD => (c_sScale a b y hC (am5_in hy) w').mono fun e w2 ⟨he, hb⟩ => ⟨he, .of_below hb, hD.below hb⟩) (fun hne => ?_)
                  simp only [Act.put, List.setIfInBounds_toArray, List.set_cons_succ, List.set_cons_zero]
                  apply wpAnyF_hd hne [false, false, false, false, false, true, true, true] 2 (fun _ _ h hb => h.below hb) (fun _ _ => trivial) (by kernel_rfl) (by kernel_rfl) (by kernel_rfl) (by kernel_rfl) (by simp)
                  · intro E hE hEN hEn; (repeat (first | (refine wpHL_take ?_; go_big_quiet_step (fail); refine wpQuiet_nil ?_) | refine wpHL_skip ?_)); exact wpHL_end rfl
                  refine wpAnyF_ready [9] 1 (by kernel_rfl) (by kernel_rfl) (by simp) ?_
                  refine AllF.cons ?_ ?_
                  · refine stepC_store (v := .agg #[.int .i64 (scA a b y), .int .i64 (scB a b y)]) r #[.int .i64 0, .int .i64 0] (Dr w.heap.size k (.slice a0 xs.length cap) xs (200 - 10 * m + 2) w ((r, #[.int .i64 (scA a b y), .int .i64 (scB a b y)], 33) :: (s, (am5.map (Value.int .i64)).toArray, 3) :: [(E, #[.int .i64 a, .int .i64 b], 33), (w.heap.size, #[.int .i64 0, .int .i64 0], 33)])) (by rfl) (by rfl) (by rfl) (by rfl) (by rfl) (by rfl) (fun _ => by go_simp) (by rfl) (by simp [Value.cells, one1]) (.inl hr) (fun _ hd => hd.head) (fun _ _ h hb => h.below hb) (fun _ _ hd ho hb => hd.stored ho hb) (fun hne => ?_)
                    try simp only [Value.cells]
                    apply wpAnyF_hd hne [false, false, false, false, false, false, false, false, false, false, true] 0 (fun _ _ h hb => h.below hb) (fun _ _ => trivial) (by kernel_rfl) (by kernel_rfl) (by kernel_rfl) (by kernel_rfl) (by simp)
                    · intro E hE hEN hEn; (repeat (first | (refine wpHL_take ?_; go_big_quiet_step (fail); refine wpQuiet_nil ?_) | refine wpHL_skip ?_)); exact wpHL_end rfl
                    refine wpAnyF_done (by kernel_rfl) (fun Wz hOz hDz => NoPanic.normal ?_) _
                    try dsimp only
                    have dz := hDz
                    obtain ⟨q0, q1, q2, q3⟩ := dz.two
                    obtain ⟨y0, y1, y2, y3⟩ := dz.tail.tail.two
                    cases hq : scO a b y
                    · go_wp2
                      go_roundw
                      case rel => exact ⟨a, b, m - 1, by go_num, by omega, hC, dz.tail.tail.le (by omega)⟩
                      case measure => simp [intOf]; omega
                    · have dy := dz.tail.tail.s01 (.int .i64 (scA a b y)) (.int .i64 (scB a b y))
                      go_wp2
                      go_roundw
                      case rel => exact ⟨_, _, m - 1, by go_num, by omega, sc_good hq, dy.le (by omega)⟩
                      case measure => simp [intOf]; omega
                  exact AllF.nil
                exact AllF.nil
              exact AllF.nil
            exact AllF.nil
          refine AllF.cons ?_ ?_
          · refine stepC_val (some 6) (fun u w' => ∃ r : Nat, u = .pointer (some ⟨r, 0, none⟩) ∧ wr.heap.size ≤ r ∧ Dr w.heap.size k (.slice a0 xs.length cap) xs (200 - 10 * m) w ((r, #[.int .i64 0, .int .i64 0], 33) :: [(E, #[.int .i64 a, .int .i64 b], 33), (w.heap.size, #[.int .i64 0, .int .i64 0], 33)]) w') (by rfl) (by rfl) (by rfl) (fun _ _ _ ⟨s, h, q, d⟩ hb => ⟨s, h, q, d.below hb⟩) (fun w' hO hD => ⟨.pointer (some ⟨w'.heap.size, 0, none⟩), w'.alloc (.cells #[.int .i64 0, .int .i64 0] 33), (by go_simp), (Over.refl _ _).alloc _, ⟨w'.heap.size, rfl, hO.size, hD.alloc _ _⟩⟩) (fun u hne => ?_)
            simp only [Act.put, List.setIfInBounds_toArray, List.set_cons_succ, List.set_cons_zero]
            obtain ⟨w9, hO9, r, rfl, hr, hd9⟩ := hne
            refine wpAnyF_weaken (D2 := Dr w.heap.size k (.slice a0 xs.length cap) xs (200 - 10 * m) w ((r, #[.int .i64 0, .int .i64 0], 33) :: [(E, #[.int .i64 a, .int .i64 b], 33), (w.heap.size, #[.int .i64 0, .int .i64 0], 33)])) (fun w' ⟨r', hr', _, d⟩ => by cases hr'; exact d) ?_
            have hne : ∃ w1, Over [k] wr w1 ∧ Dr w.heap.size k (.slice a0 xs.length cap) xs (200 - 10 * m) w ((r, #[.int .i64 0, .int .i64 0], 33) :: [(E, #[.int .i64 a, .int .i64 b], 33), (w.heap.size, #[.int .i64 0, .int .i64 0], 33)]) w1 := ⟨w9, hO9, hd9⟩
            clear hO9 hd9
            refine wpAnyF_ready [2] 7 (by kernel_rfl) (by kernel_rfl) (by simp) ?_
            refine AllF.cons ?_ ?_
            · refine stepC_val (some 30) (fun u w' => ∃ s : Nat, u = .slice (some ⟨s, 0, none⟩) 5 5 ∧ Dr w.heap.size k (.slice a0 xs.length cap) xs (200 - 10 * m) w ((s, (am5.map (Value.int .i64)).toArray, 3) :: (r, #[.int .i64 0, .int .i64 0], 33) :: [(E, #[.int .i64 a, .int .i64 b], 33), (w.heap.size, #[.int .i64 0, .int .i64 0], 33)]) w') (by rfl) (by rfl) (by rfl) (fun _ _ _ ⟨s, h, d⟩ hb => ⟨s, h, d.below hb⟩) (fun w' hO hD => ⟨.slice (some ⟨w'.heap.size, 0, none⟩) 5 5, w'.alloc (.cells (am5.map (Value.int .i64)).toArray 3), (by unfold execOp; simp [go_sem, am5]), (Over.refl _ _).alloc _, ⟨w'.heap.size, rfl, hD.alloc _ _⟩⟩) (fun u hne => ?_)
              simp only [Act.put, List.setIfInBounds_toArray, List.set_cons_succ, List.set_cons_zero]
              obtain ⟨w9, hO9, s, rfl, hd9⟩ := hne
              refine wpAnyF_weaken (D2 := Dr w.heap.size k (.slice a0 xs.length cap) xs (200 - 10 * m) w ((s, (am5.map (Value.int .i64)).toArray, 3) :: (r, #[.int .i64 0, .int .i64 0], 33) :: [(E, #[.int .i64 a, .int .i64 b], 33), (w.heap.size, #[.int .i64 0, .int .i64 0], 33)])) (fun w' ⟨r', hr', d⟩ => by cases hr'; exact d) ?_
              have hne : ∃ w1, Over [k] wr w1 ∧ Dr w.heap.size k (.slice a0 xs.length cap) xs (200 - 10 * m) w ((s, (am5.map (Value.int .i64)).toArray, 3) :: (r, #[.int .i64 0, .int .i64 0], 33) :: [(E, #[.int .i64 a, .int .i64 b], 33), (w.heap.size, #[.int .i64 0, .int .i64 0], 33)]) w1 := ⟨w9, hO9, hd9⟩
              clear hO9 hd9
              refine wpAnyF_ready [3] 6 (by kernel_rfl) (by kernel_rfl) (by simp) ?_
              refine AllF.cons ?_ ?_
              · refine stepC_calle (some 31) (fun u w' => ∃ y : Int, u = .int .i64 y ∧ y ∈ am5 ∧ Dr w.heap.size k (.slice a0 xs.length cap) xs (200 - 10 * m + 2) w ((s, (am5.map (Value.int .i64)).toArray, 3) :: (r, #[.int .i64 0, .int .i64 0], 33) :: [(E, #[.int .i64 a, .int .i64 b], 33), (w.heap.size, #[.int .i64 0, .int .i64 0], 33)]) w') (by rfl) (by rfl) (by rfl) (fun _ => by go_simp; rfl) (fun _ _ _ ⟨y, h, hy, d⟩ hb => ⟨y, h, hy, d.below hb⟩) (fun w' hO hD => (c_among _ _ _ _ _ (by omega) am5 (by simp [am5]) s (hD.far (s, (am5.map (Value.int .i64)).toArray, 3) (by simp)).1 w' hD.cur (hD.mem (s, (am5.map (Value.int .i64)).toArray, 3) (by simp))).mono fun e w2 ⟨y, hy, he, h4, h5⟩ => ⟨_, he, h5, ⟨y, rfl, hy, hD.go h4 h5⟩⟩) (fun u hne => ?_)
                simp only [Act.put, List.setIfInBounds_toArray, List.set_cons_succ, List.set_cons_zero]
                obtain ⟨w9, hO9, y, rfl, hy, hd9⟩ := hne
                refine wpAnyF_weaken (D2 := Dr w.heap.size k (.slice a0 xs.length cap) xs (200 - 10 * m + 2) w ((s, (am5.map (Value.int .i64)).toArray, 3) :: (r, #[.int .i64 0, .int .i64 0], 33) :: [(E, #[.int .i64 a, .int .i64 b], 33), (w.heap.size, #[.int .i64 0, .int .i64 0], 33)])) (fun w' ⟨r', hr', _, d⟩ => d) ?_
                have hne : ∃ w1, Over [k] wr w1 ∧ Dr w.heap.size k (.slice a0 xs.length cap) xs (200 - 10 * m + 2) w ((s, (am5.map (Value.int .i64)).toArray, 3) :: (r, #[.int .i64 0, .int .i64 0], 33) :: [(E, #[.int .i64 a, .int .i64 b], 33), (w.heap.size, #[.int .i64 0, .int .i64 0], 33)]) w1 := ⟨w9, hO9, hd9⟩
                clear hO9 hd9
                refine wpAnyF_ready [4] 5 (by kernel_rfl) (by kernel_rfl) (by simp) ?_
                refine AllF.cons ?_ ?_
                · refine stepC_call (v := .tuple #[.agg #[.int .i64 (scA a b y), .int .i64 (scB a b y)], .bool (scO a b y)]) (some 32) (Dr w.heap.size k (.slice a0 xs.length cap) xs (200 - 10 * m + 2) w ((s, (am5.map (Value.int .i64)).toArray, 3) :: (r, #[.int .i64 0, .int .i64 0], 33) :: [(E, #[.int .i64 a, .int .i64 b], 33), (w.heap.size, #[.int .i64 0, .int .i64 0], 33)])) (by rfl) (by rfl) (by rfl) (fun _ => by go_simp) (fun _ _ h hb => h.below hb) (fun w' hO hD => (c_sScale a b y hC (am5_in hy) w').mono fun e w2 ⟨he, hb⟩ => ⟨he, .of_below hb, hD.below hb⟩) (fun hne => ?_)
                  simp only [Act.put, List.setIfInBounds_toArray, List.set_cons_succ, List.set_cons_zero]
                  apply wpAnyF_hd hne [false, false, false, false, false, true, true, true] 2 (fun _ _ h hb => h.below hb) (fun _ _ => trivial) (by kernel_rfl) (by kernel_rfl) (by kernel_rfl) (by kernel_rfl) (by simp)
                  · intro E hE hEN hEn; (repeat (first | (refine wpHL_take ?_; go_big_quiet_step (fail); refine wpQuiet_nil ?_) | refine wpHL_skip ?_)); exact wpHL_end rfl
                  refine wpAnyF_ready [9] 1 (by kernel_rfl) (by kernel_rfl) (by simp) ?_
                  refine AllF.cons ?_ ?_
                  · refine stepC_store (v := .agg #[.int .i64 (scA a b y), .int .i64 (scB a b y)]) r #[.int .i64 0, .int .i64 0] (Dr w.heap.size k (.slice a0 xs.length cap) xs (200 - 10 * m + 2) w ((r, #[.int .i64 (scA a b y), .int .i64 (scB a b y)], 33) :: (s, (am5.map (Value.int .i64)).toArray, 3) :: [(E, #[.int .i64 a, .int .i64 b], 33), (w.heap.size, #[.int .i64 0, .int .i64 0], 33)])) (by rfl) (by rfl) (by rfl) (by rfl) (by rfl) (by rfl) (fun _ => by go_simp) (by rfl) (by simp [Value.cells, one1]) (.inl hr) (fun _ hd => hd.swap.head) (fun _ _ h hb => h.below hb) (fun _ _ hd ho hb => hd.swap.stored ho hb) (fun hne => ?_)
                    try simp only [Value.cells]
                    apply wpAnyF_hd hne [false, false, false, false, false, false, false, false, false, false, true] 0 (fun _ _ h hb => h.below hb) (fun _ _ => trivial) (by kernel_rfl) (by kernel_rfl) (by kernel_rfl) (by kernel_rfl) (by simp)
                    · intro E hE hEN hEn; (repeat (first | (refine wpHL_take ?_; go_big_quiet_step (fail); refine wpQuiet_nil ?_) | refine wpHL_skip ?_)); exact wpHL_end rfl
                    refine wpAnyF_done (by kernel_rfl) (fun Wz hOz hDz => NoPanic.normal ?_) _
                    try dsimp only
                    have dz := hDz
                    obtain ⟨q0, q1, q2, q3⟩ := dz.two
                    obtain ⟨y0, y1, y2, y3⟩ := dz.tail.tail.two
                    cases hq : scO a b y
                    · go_wp2
                      go_roundw
                      case rel => exact ⟨a, b, m - 1, by go_num, by omega, hC, dz.tail.tail.le (by omega)⟩
                      case measure => simp [intOf]; omega
                    · have dy := dz.tail.tail.s01 (.int .i64 (scA a b y)) (.int .i64 (scB a b y))
                      go_wp2
                      go_roundw
                      case rel => exact ⟨_, _, m - 1, by go_num, by omega, sc_good hq, dy.le (by omega)⟩
                      case measure => simp [intOf]; omega
                  exact AllF.nil
                exact AllF.nil
              exact AllF.nil
            exact AllF.nil
          exact AllF.nil
        · obtain ⟨z0, z1, z2, z3⟩ := (dr).two
          obtain ⟨y0, y1, y2, y3⟩ := (dr).swap.two
          have e2 := (dr).swap.s01 (.int .i64 a) (.int .i64 b)
          go_wp2
          generalize (World.setCell (World.setCell _ _ _) _ _) = w16 at e2 ⊢
          obtain ⟨q0, q1, _, _⟩ := e2.two
          refine bodyPost_ret (v := .agg #[.int .i64 a, .int .i64 b]) (by simp [results, Tryz.results12, go_sem, q0, q1]) rfl ?_
          exact ⟨_, _, rfl, (in64_of hC), e2.tail.tail.out⟩
    · obtain ⟨z0, z1, z2, z3⟩ := (d5).two
      obtain ⟨y0, y1, y2, y3⟩ := (d5).swap.two
      have e2 := (d5).swap.s01 (.int .i64 a) (.int .i64 b)
      go_wp2
      generalize (World.setCell (World.setCell _ _ _) _ _) = w16 at e2 ⊢
      obtain ⟨q0, q1, _, _⟩ := e2.two
      refine bodyPost_ret (v := .agg #[.int .i64 a, .int .i64 b]) (by simp [results, Tryz.results12, go_sem, q0, q1]) rfl ?_
      exact ⟨_, _, rfl, hab, e2.tail.tail.out⟩
end Go.Proofs.YtpnpidepkfnofaaGreatDoor

/- Smo -/
namespace Go.Proofs.YtpnpidepkfnofaaGreatDoor
open Go.RowKit

theorem c_sSmallestModel (A B : Int) (hC : curveB A B = true) (w : World) :
    Calls Tryz.prog 15 #[.agg #[.int .i64 A, .int .i64 B]] w fun e w' => e = .returned (.tuple #[.agg #[.int .i64 (sm4 A (smU A B)), .int .i64 (sm6 B (smU A B))], .int .i64 (smU A B), .bool true]) ∧ Below w.heap.size w w' := by
  have HE := Lib.hid (fun W => c_ecSmallest A B hC W)
  generalize sm4 A (smU A B) = X at *
  generalize sm6 B (smU A B) = Y at *
  generalize smU A B = U at *
  go_enter Tryz.func15, Tryz.ntmps15
  go_wp2_with ((go_at_call 41; refine (c_ecGood _ _ _).mono ?_; rintro e w1 ⟨rfl, hb1⟩; obtain ⟨hc1, hf1⟩ := bcell hb1; have hz1 := hb1.size; (try simp only [World.size_alloc] at hz1); (try (have hy1 : w.heap.size < w1.heap.size := by omega)); (try (have hx1 := Nat.lt_of_succ_le hz1)); (try (have hv1 := Nat.lt_of_succ_le (Nat.le_of_lt hx1)))))
  refine (HE.out _).mono ?_
  rintro e w2 ⟨rfl, hb2⟩
  clear HE
  obtain ⟨_, _, q3, q4, f3, f4, _, hx2, _⟩ := ((S9.new2 w (.int .i64 A) (.int .i64 B) (.int .i64 0) (.int .i64 0) 33 33).below hb1).below hb2
  go_wp2
  refine bodyPost_ret (v := .tuple #[.agg #[.int .i64 X, .int .i64 Y], .int .i64 U, .bool true]) (by simp [results, Tryz.results15, go_sem, q3, q4, hx2]) rfl ⟨rfl, ?_⟩
  (repeat' (first | (with_reducible exact Below.refl _ _) | (with_reducible refine below_step (by assumption) ?_ ?_) | (with_reducible refine Below.alloc ?_ ?_ _) | (with_reducible refine Below.setCell ?_ ?_ _) | (with_reducible refine below_drewN ?_ _) | (with_reducible refine Below.drew ?_) | omega | (simp; omega) | (simp; done)))
end Go.Proofs.YtpnpidepkfnofaaGreatDoor

/- RepL -/
namespace Go.Proofs.YtpnpidepkfnofaaGreatDoor
open Go.RowKit

end Go.Proofs.YtpnpidepkfnofaaGreatDoor

/- Lfy -/
namespace Go.Proofs.YtpnpidepkfnofaaGreatDoor
open Go.RowKit

noncomputable def restR25 : Code := (Tryz.f3.body.bind (restAt 25)).getD .skip
set_option maxRecDepth 1000000 in
set_option maxHeartbeats 4000000 in
theorem r25 {Q0 : Exit → Act → World → Prop} {x0 x2 x3 x4 x5 x6 x7 x8 x9 x10 x11 x12 x13 x14 x15 x16 x17 x18 x19 x20 x21 x22 x23 x24 x25 x26 x27 x28 x29 x30 x31 x32 x33 x34 x35 x36 x37 x38 x39 x40 x41 x42 x43 x44 x45 x46 x47 x48 x49 x50 x51 x52 x53 x54 x55 x56 x57 x58 x59 x60 x61 x62 x63 x64 x65 x66 x67 x68 x69 x70 x71 x72 x73 x74 x75 x76 x77 x78 x79 x80 x81 x82 x83 x84 x85 x86 x87 x88 x89 x90 x91 x92 x93 x94 x95 x96 x97 x98 x99 x100 x101 x102 x103 x104 x105 x106 x107 x108 x109 x110 x111 x112 x113 x114 x115 x116 x117 x118 x119 x120 x121 x122 x123 x124 x125 x126 x127 x128 x129 x130 x131 x132 x133 x134 x135 x136 x137 x138 x139 x140 x141 x142 x143 x144 x145 x146 x147 x148 x149 x150 x151 x152 x153 x154 x155 x156 x157 x158 x159 x160 x161 x162 x163 x164 x165 x166 x167 x168 x169 x170 x171 x172 x173 x174 x175 x176 x177 x178 x179 x180 x181 x182 x183 x184 x185 x186 x187 x188 x189 x190 x191 x192 x193 x194 x195 x196 x197 x198 x199 x200 x201 x202 x203 x204 x205 x206 x207 x208 x209 x210 x211 x212 x213 x214 x215 x216 x217 x218 x219 x220 x221 x222 x223 x224 x225 x226 x227 x228 x229 x230 x231 x232 x233 x234 x235 x236 x237 x238 x239 x240 x241 x242 x243 x244 x245 x246 x247 x248 x249 x250 x251 x252 x253 x254 x255 x256 x257 x258 x259 x260 x261 x262 x263 x264 x265 x266 : Value} (v1 : Value) (ys : List Int) (w : World) (r1 : RdB w w.heap.size v1 ys) (hE : PEnv w) (hret : ∀ a w', Done 4 w a w' → Q0 .ret a w') :
    Code.wp Tryz.prog restR25 Q0 ⟨(x0 :: v1 :: x2 :: x3 :: x4 :: x5 :: x6 :: x7 :: x8 :: x9 :: x10 :: x11 :: x12 :: x13 :: x14 :: x15 :: x16 :: x17 :: x18 :: x19 :: x20 :: x21 :: x22 :: x23 :: x24 :: x25 :: x26 :: x27 :: x28 :: x29 :: x30 :: x31 :: x32 :: x33 :: x34 :: x35 :: x36 :: x37 :: x38 :: x39 :: x40 :: x41 :: x42 :: x43 :: x44 :: x45 :: x46 :: x47 :: x48 :: x49 :: x50 :: x51 :: x52 :: x53 :: x54 :: x55 :: x56 :: x57 :: x58 :: x59 :: x60 :: x61 :: x62 :: x63 :: x64 :: x65 :: x66 :: x67 :: x68 :: x69 :: x70 :: x71 :: x72 :: x73 :: x74 :: x75 :: x76 :: x77 :: x78 :: x79 :: x80 :: x81 :: x82 :: x83 :: x84 :: x85 :: x86 :: x87 :: x88 :: x89 :: x90 :: x91 :: x92 :: x93 :: x94 :: x95 :: x96 :: x97 :: x98 :: x99 :: x100 :: x101 :: x102 :: x103 :: x104 :: x105 :: x106 :: x107 :: x108 :: x109 :: x110 :: x111 :: x112 :: x113 :: x114 :: x115 :: x116 :: x117 :: x118 :: x119 :: x120 :: x121 :: x122 :: x123 :: x124 :: x125 :: x126 :: x127 :: x128 :: x129 :: x130 :: x131 :: x132 :: x133 :: x134 :: x135 :: x136 :: x137 :: x138 :: x139 :: x140 :: x141 :: x142 :: x143 :: x144 :: x145 :: x146 :: x147 :: x148 :: x149 :: x150 :: x151 :: x152 :: x153 :: x154 :: x155 :: x156 :: x157 :: x158 :: x159 :: x160 :: x161 :: x162 :: x163 :: x164 :: x165 :: x166 :: x167 :: x168 :: x169 :: x170 :: x171 :: x172 :: x173 :: x174 :: x175 :: x176 :: x177 :: x178 :: x179 :: x180 :: x181 :: x182 :: x183 :: x184 :: x185 :: x186 :: x187 :: x188 :: x189 :: x190 :: x191 :: x192 :: x193 :: x194 :: x195 :: x196 :: x197 :: x198 :: x199 :: x200 :: x201 :: x202 :: x203 :: x204 :: x205 :: x206 :: x207 :: x208 :: x209 :: x210 :: x211 :: x212 :: x213 :: x214 :: x215 :: x216 :: x217 :: x218 :: x219 :: x220 :: x221 :: x222 :: x223 :: x224 :: x225 :: x226 :: x227 :: x228 :: x229 :: x230 :: x231 :: x232 :: x233 :: x234 :: x235 :: x236 :: x237 :: x238 :: x239 :: x240 :: x241 :: x242 :: x243 :: x244 :: x245 :: x246 :: x247 :: x248 :: x249 :: x250 :: x251 :: x252 :: x253 :: x254 :: x255 :: x256 :: x257 :: x258 :: x259 :: x260 :: x261 :: x262 :: x263 :: x264 :: x265 :: x266 :: []).toArray, []⟩ w := by
  have R1 := Lib.hid r1
  have HE := Lib.hid hE
  have HR := Lib.hid hret
  clear r1 hE hret
  conv => arg 2; whnf
  go_wp2_with fail
  refine (d_drawTwist v1 ys _ R1.out).mono ?_
  rintro e w1 ⟨u, L, rfl, hL, hu, bb1⟩
  have K1 := Lib.hid (fun W ho => c_iTwistOfLog w.heap.size u L (by omega) W ho)
  have K2 := Lib.hid (fun W ho => c_sTwistOfLog w.heap.size u L (by omega) W ho)
  have HF : Hid (toO L = true → toO (ivL L) = true ∧ toV (ivL L) = toV L ∧ toV L ≠ 0 ∧ logB L = true) := Lib.hid tol_facts
  generalize toV L = V at K1 K2 HF
  generalize toO L = o at K1 K2 HF
  go_wp2_with fail
  refine (K1.out _ hu).mono ?_
  rintro e w2 ⟨rfl, hb2⟩
  have bb2 := below_step hb2 bb1.size bb1
  replace hu := OwnsP.below hu hb2
  clear K1
  go_wp2_with fail
  refine (K2.out _ hu).mono ?_
  rintro e w3 ⟨rfl, hb3⟩
  have bb3 := below_step hb3 bb2.size bb2
  replace hu := OwnsP.below hu hb3
  clear K2 hb2 hb3 bb1 bb2
  go_upto_if 197 with (fail)
  go_cut [] from 267 (fun wd => Below w3.heap.size w3 wd)
  case rest =>
    have bbd := below_step hcut bb3.size bb3
    apply_assumption
    refine r36 v1 ys _ (R1.out.later bbd) (PEnv.below HE.out bbd) (fun a w' hd => ?_)
    exact HR.out _ _ ⟨hd.1, hd.2.1, below_step hd.2.2 bbd.size bbd⟩
  case first =>
    cases o
    · go_wp2
      go_meet
      case rel => exact Below.refl _ _
    · obtain ⟨F1, F2, F3, F4⟩ := HF.out rfl
      have I1 := Lib.hid (fun W ho => c_iInverse w.heap.size u L (by omega) W ho)
      have I2 := Lib.hid (fun W ho => c_sInverse w.heap.size u L (by omega) W ho)
      rw [F4] at I1 I2
      have hiv := ivL_len L
      have T1 := Lib.hid (fun B v W ho => c_iTwistOfLog B v (ivL L) (by omega) W ho)
      rw [F1, F2] at T1
      generalize ivL L = M at *
      clear HF F1 F2 F4
      have hV : (V == 0) = false := by simpa using F3
      go_wp2_with fail
      refine (I1.out _ hu).mono ?_
      rintro e w4 ⟨v33, rfl, o33, hb4⟩
      replace hu := OwnsP.below hu hb4
      go_wp2_with fail
      refine (I2.out _ hu).mono ?_
      rintro e w5 ⟨v35, rfl, o35, hb5⟩
      have bb5 := below_step hb5 hb4.size hb4
      replace o33 := OwnsP.below o33 hb5
      go_wp2_with fail
      refine (T1.out _ _ _ o33).mono ?_
      rintro e w6 ⟨rfl, hb6⟩
      have bb6 := below_step hb6 bb5.size bb5
      replace o33 := OwnsP.below o33 hb6
      replace o35 := OwnsP.below o35 hb6
      clear I1 I2 T1 hb4 hb5 hb6 bb5 hu
      go_wp2_with fail
      refine (c_pSameSteps _ _ _ _ M (by omega) _ o33 o35).mono ?_
      rintro e w7 ⟨rfl, hb7⟩
      have bb7 := below_step hb7 bb6.size bb6
      go_wp2
      go_meet
      case rel => exact bb7
noncomputable def restR15 : Code := (Tryz.f3.body.bind (restAt 15)).getD .skip
set_option maxRecDepth 1000000 in
set_option maxHeartbeats 4000000 in
theorem r15 {Q0 : Exit → Act → World → Prop} {x0 x2 x3 x4 x5 x6 x7 x8 x9 x10 x11 x12 x13 x14 x15 x16 x17 x18 x19 x20 x21 x22 x23 x24 x25 x26 x27 x28 x29 x30 x31 x32 x33 x34 x35 x36 x37 x38 x39 x40 x41 x42 x43 x44 x45 x46 x47 x48 x49 x50 x51 x52 x53 x54 x55 x56 x57 x58 x59 x60 x61 x62 x63 x64 x65 x66 x67 x68 x69 x70 x71 x72 x73 x74 x75 x76 x77 x78 x79 x80 x81 x82 x83 x84 x85 x86 x87 x88 x89 x90 x91 x92 x93 x94 x95 x96 x97 x98 x99 x100 x101 x102 x103 x104 x105 x106 x107 x108 x109 x110 x111 x112 x113 x114 x115 x116 x117 x118 x119 x120 x121 x122 x123 x124 x125 x126 x127 x128 x129 x130 x131 x132 x133 x134 x135 x136 x137 x138 x139 x140 x141 x142 x143 x144 x145 x146 x147 x148 x149 x150 x151 x152 x153 x154 x155 x156 x157 x158 x159 x160 x161 x162 x163 x164 x165 x166 x167 x168 x169 x170 x171 x172 x173 x174 x175 x176 x177 x178 x179 x180 x181 x182 x183 x184 x185 x186 x187 x188 x189 x190 x191 x192 x193 x194 x195 x196 x197 x198 x199 x200 x201 x202 x203 x204 x205 x206 x207 x208 x209 x210 x211 x212 x213 x214 x215 x216 x217 x218 x219 x220 x221 x222 x223 x224 x225 x226 x227 x228 x229 x230 x231 x232 x233 x234 x235 x236 x237 x238 x239 x240 x241 x242 x243 x244 x245 x246 x247 x248 x249 x250 x251 x252 x253 x254 x255 x256 x257 x258 x259 x260 x261 x262 x263 x264 x265 x266 : Value} (v1 : Value) (ys : List Int) (w : World) (r1 : RdB w w.heap.size v1 ys) (hE : PEnv w) (hret : ∀ a w', Done 4 w a w' → Q0 .ret a w') :
    Code.wp Tryz.prog restR15 Q0 ⟨(x0 :: v1 :: x2 :: x3 :: x4 :: x5 :: x6 :: x7 :: x8 :: x9 :: x10 :: x11 :: x12 :: x13 :: x14 :: x15 :: x16 :: x17 :: x18 :: x19 :: x20 :: x21 :: x22 :: x23 :: x24 :: x25 :: x26 :: x27 :: x28 :: x29 :: x30 :: x31 :: x32 :: x33 :: x34 :: x35 :: x36 :: x37 :: x38 :: x39 :: x40 :: x41 :: x42 :: x43 :: x44 :: x45 :: x46 :: x47 :: x48 :: x49 :: x50 :: x51 :: x52 :: x53 :: x54 :: x55 :: x56 :: x57 :: x58 :: x59 :: x60 :: x61 :: x62 :: x63 :: x64 :: x65 :: x66 :: x67 :: x68 :: x69 :: x70 :: x71 :: x72 :: x73 :: x74 :: x75 :: x76 :: x77 :: x78 :: x79 :: x80 :: x81 :: x82 :: x83 :: x84 :: x85 :: x86 :: x87 :: x88 :: x89 :: x90 :: x91 :: x92 :: x93 :: x94 :: x95 :: x96 :: x97 :: x98 :: x99 :: x100 :: x101 :: x102 :: x103 :: x104 :: x105 :: x106 :: x107 :: x108 :: x109 :: x110 :: x111 :: x112 :: x113 :: x114 :: x115 :: x116 :: x117 :: x118 :: x119 :: x120 :: x121 :: x122 :: x123 :: x124 :: x125 :: x126 :: x127 :: x128 :: x129 :: x130 :: x131 :: x132 :: x133 :: x134 :: x135 :: x136 :: x137 :: x138 :: x139 :: x140 :: x141 :: x142 :: x143 :: x144 :: x145 :: x146 :: x147 :: x148 :: x149 :: x150 :: x151 :: x152 :: x153 :: x154 :: x155 :: x156 :: x157 :: x158 :: x159 :: x160 :: x161 :: x162 :: x163 :: x164 :: x165 :: x166 :: x167 :: x168 :: x169 :: x170 :: x171 :: x172 :: x173 :: x174 :: x175 :: x176 :: x177 :: x178 :: x179 :: x180 :: x181 :: x182 :: x183 :: x184 :: x185 :: x186 :: x187 :: x188 :: x189 :: x190 :: x191 :: x192 :: x193 :: x194 :: x195 :: x196 :: x197 :: x198 :: x199 :: x200 :: x201 :: x202 :: x203 :: x204 :: x205 :: x206 :: x207 :: x208 :: x209 :: x210 :: x211 :: x212 :: x213 :: x214 :: x215 :: x216 :: x217 :: x218 :: x219 :: x220 :: x221 :: x222 :: x223 :: x224 :: x225 :: x226 :: x227 :: x228 :: x229 :: x230 :: x231 :: x232 :: x233 :: x234 :: x235 :: x236 :: x237 :: x238 :: x239 :: x240 :: x241 :: x242 :: x243 :: x244 :: x245 :: x246 :: x247 :: x248 :: x249 :: x250 :: x251 :: x252 :: x253 :: x254 :: x255 :: x256 :: x257 :: x258 :: x259 :: x260 :: x261 :: x262 :: x263 :: x264 :: x265 :: x266 :: []).toArray, []⟩ w := by
  have R1 := Lib.hid r1
  have HE := Lib.hid hE
  have HR := Lib.hid hret
  clear r1 hE hret
  conv => arg 2; whnf
  go_wp2_with fail
  refine (d_drawSmallest v1 ys _ R1.out).mono ?_
  rintro e w1 ⟨a, b, rfl, _, bb1⟩
  have K1 := Lib.hid (fun W => c_iSmallestLog a b W)
  have K2 := Lib.hid (fun W => c_sSmallestLog a b W)
  have hsl : (slRes a b).length ≤ 5 := by
    unfold slRes
    split
    · have hu := smU_bd a b
      have := (sl_len (smU a b).toNat (by omega)).1
      rwa [show (((smU a b).toNat : Nat) : Int) = smU a b by omega] at this
    · simp
  have K3 := Lib.hid (fun B v W ho => c_iReplayLog B v a b (slRes a b) (by omega) W ho)
  have HF : Hid (curveB a b = true → (∀ W, Calls Tryz.prog 15 #[.agg #[.int .i64 a, .int .i64 b]] W fun e w' => e = .returned (.tuple #[.agg #[.int .i64 (sm4 a (smU a b)), .int .i64 (sm6 b (smU a b))], .int .i64 (smU a b), .bool true]) ∧ Below W.heap.size W w') ∧ ccO (a, b) (slRes a b) = true ∧ rpE a b (slRes a b) = (sm4 a (smU a b), sm6 b (smU a b))) := Lib.hid (fun h => ⟨fun W => c_sSmallestModel a b h W, slRes_to h⟩)
  generalize rpE a b (slRes a b) = E at K3 HF
  generalize ccO (a, b) (slRes a b) = oc at K3 HF
  generalize slRes a b = M at *
  generalize sm4 a (smU a b) = X at HF
  generalize sm6 b (smU a b) = Y at HF
  generalize smU a b = U at HF
  generalize curveB a b = o at K1 K2 HF
  have x18 := Bx.alloc w1 (.int .i64 a) (.int .i64 b) 33
  replace bb1 : Below w.heap.size w (w1.alloc (.cells #[.int .i64 a, .int .i64 b] 33)) := bb1.alloc bb1.size _
  go_upto_region 16 with (fail)
  generalize w1.alloc _ = W1 at *
  generalize w1.heap.size = g18 at *
  obtain ⟨f0, f1, _, _, f4⟩ := id x18
  go_wp2_with fail
  refine (K1.out _).mono ?_
  rintro e w2 ⟨l19, rfl, o19, hb2⟩
  have bb2 := below_step hb2 bb1.size bb1
  replace x18 := x18.below hb2
  clear f0 f1 f4 K1
  obtain ⟨f0, f1, _, _, f4⟩ := id x18
  go_wp2_with fail
  refine (K2.out _).mono ?_
  rintro e w3 ⟨l21, rfl, o21, hb3⟩
  have bb3 := below_step hb3 bb2.size bb2
  replace x18 := x18.below hb3
  replace o19 := OwnsP.below o19 hb3
  clear f0 f1 f4 K2 bb1 bb2 hb2 hb3
  go_wp2_with fail
  refine (c_pSameSteps _ _ _ _ M (by omega) _ o19 o21).mono ?_
  rintro e w4 ⟨rfl, hb4⟩
  have bb4 := below_step hb4 bb3.size bb3
  replace x18 := x18.below hb4
  replace o19 := OwnsP.below o19 hb4
  clear o21 bb3 hb4
  go_upto_if 153 with (fail)
  go_cut [] from 267 (fun wd => Below w4.heap.size w4 wd)
  case rest =>
    have bbd := below_step hcut bb4.size bb4
    apply_assumption
    refine r25 v1 ys _ (R1.out.later bbd) (PEnv.below HE.out bbd) (fun a w' hd => ?_)
    exact HR.out _ _ ⟨hd.1, hd.2.1, below_step hd.2.2 bbd.size bbd⟩
  case first =>
    cases o
    · go_wp2
      go_meet
      case rel => exact Below.refl _ _
    · obtain ⟨F1, rfl, rfl⟩ := HF.out rfl
      have FH := Lib.hid F1
      clear HF F1
      obtain ⟨f0, f1, _, _, f4⟩ := id x18
      go_wp2_with fail
      refine (FH.out _).mono ?_
      rintro e w5 ⟨rfl, hb5⟩
      have x23 := Bx.alloc w5 (.int .i64 X) (.int .i64 Y) 33
      have bb5 : Below w4.heap.size w4 (w5.alloc (.cells #[.int .i64 X, .int .i64 Y] 33)) := hb5.alloc hb5.size _
      replace x18 := x18.below bb5
      replace o19 := OwnsP.below o19 bb5
      clear f0 f1 f4 FH hb5
      go_upto_region 22 with (fail)
      generalize w5.alloc _ = W5 at *
      generalize w5.heap.size = g23 at *
      obtain ⟨f0, f1, _, _, f4⟩ := id x18
      go_wp2_with fail
      refine (K3.out _ _ _ o19).mono ?_
      rintro e w6 ⟨rfl, hb6⟩
      simp only
      have x26 := Bx.alloc w6 (.int .i64 X) (.int .i64 Y) 33
      have hb7 : Below W5.heap.size W5 (w6.alloc (.cells #[.int .i64 X, .int .i64 Y] 33)) := hb6.alloc hb6.size _
      have bb7 := below_step hb7 bb5.size bb5
      replace x23 := x23.below hb7
      clear f0 f1 f4 K3 hb6 o19
      go_upto_region 23 with (fail)
      generalize w6.alloc _ = W6 at *
      generalize w6.heap.size = g26 at *
      obtain ⟨f0, f1, _, _, f4⟩ := id x23
      obtain ⟨h0, h1, _, _, h4⟩ := id x26
      go_wp2
      go_meet
      case rel => exact bb7
end Go.Proofs.YtpnpidepkfnofaaGreatDoor

/- LfQ -/
namespace Go.Proofs.YtpnpidepkfnofaaGreatDoor
open Go.RowKit

theorem lnH_inj {c d : Int × Int} (hc : stepB c.1 c.2 = true) (hd : stepB d.1 d.2 = true) (h : lnH c = lnH d) : c = d := by
  have h1 := cutL_lnH hc
  have h2 := cutL_lnH hd
  rw [h] at h1
  rw [h1] at h2
  simp only [List.cons.injEq, and_true] at h2
  obtain ⟨e1, e2⟩ := h2
  have zc := stepB_z hc
  have zd := stepB_z hd
  have k1 := idx_names zc.1
  have k2 := idx_names zd.1
  rw [e1, k2] at k1
  have v1 := (okZ_facts zc.2).2.2.2.2
  have v2 := (okZ_facts zd.2).2.2.2.2
  rw [e2, v2] at v1
  obtain ⟨a, b⟩ := c
  obtain ⟨x, y⟩ := d
  simp only at k1 v1
  rw [k1, v1]
theorem map_inj_on {f : Int × Int → List UInt8} : ∀ (L M : List (Int × Int)), (∀ c ∈ L, ∀ d ∈ M, f c = f d → c = d) → L.map f = M.map f → L = M
  | [], [], _, _ => rfl
  | [], _ :: _, _, h => by simp at h
  | _ :: _, [], _, h => by simp at h
  | c :: L, d :: M, hf, h => by
    simp only [List.map_cons, List.cons.injEq] at h
    rw [hf c (by simp) d (by simp) h.1, map_inj_on L M (fun x hx y hy => hf x (by simp [hx]) y (by simp [hy])) h.2]
theorem isTxt_uniq {s : ByteArray} {L M : List (Int × Int)} (hL : isTxt s L) (hM : isTxt s M) : L = M := by
  have h1 := cutL_text L hL.steps
  have h2 := cutL_text M hM.steps
  rw [← hL.data] at h1
  rw [← hM.data, h1] at h2
  exact map_inj_on L M (fun c hc d hd => lnH_inj (hL.steps c hc) (hM.steps d hd)) (List.append_cancel_right h2)
theorem pl_text {L : List (Int × Int)} (h : logB L = true) : plB (ltS L) = true ∧ plR (ltS L) = L := by
  have e : ltS L = txtL L := by unfold ltS; rw [if_pos h]
  rw [e]
  have hi : isTxt (txtL L) L := ⟨h, rfl⟩
  obtain ⟨h1, h2⟩ := plR_yes ⟨L, hi⟩
  exact ⟨h1, isTxt_uniq h2 hi⟩
end Go.Proofs.YtpnpidepkfnofaaGreatDoor

/- Lfz -/
namespace Go.Proofs.YtpnpidepkfnofaaGreatDoor
open Go.RowKit

set_option maxRecDepth 1000000 in
set_option maxHeartbeats 4000000 in
theorem walk_FnLogForms (v0 : Value) (xs : List Int) (v1 : Value) (ys : List Int) (w : World) (r0 : RdB w w.heap.size v0 xs) (r1 : RdB w w.heap.size v1 ys) (hE : PEnv w) :
    Calls Tryz.prog 3 #[v0, v1] w fun e w' => e = .returned (.bool true) ∧ Below w.heap.size w w' := by
  have HB := Lib.hid (c_big v0 v1 _ xs ys w r0 r1)
  have HD := Lib.hid (d_drawLogText v0 xs w r0)
  have R1 := Lib.hid r1
  have HE := Lib.hid hE
  clear r0 r1 hE
  go_enter Tryz.func3, Tryz.ntmps3
  go_wp2_with fail
  refine HB.out.mono ?_
  rintro e w1 ⟨q, rfl, rfl⟩
  clear HB
  cases q
  case true =>
    go_wp2
    go_ret
    exact ⟨rfl, Below.refl _ _⟩
  go_wp2_with fail
  refine HD.out.mono ?_
  rintro e w2 ⟨u, L, rfl, hL, hu, bb2⟩
  clear HD
  have K1 := Lib.hid (fun W h ho => c_iLogText w1.heap.size u L (by omega) W h ho)
  have K2 := Lib.hid (fun W h ho => c_sLogText w1.heap.size u L (by omega) W h ho)
  have K3 := Lib.hid (fun W ho => c_iShorten w1.heap.size u L (by omega) W ho)
  have K4 := Lib.hid (fun W ho => c_sShorten w1.heap.size u L (by omega) W ho)
  have HF : Hid (logB L = true → (ltS L).size ≤ 600 ∧ (plB (ltS L) = true ∧ plR (ltS L) = L) ∧ logB (shR L) = true ∧ shR (shR L) = shR L ∧ (L.length - (shR L).length) % 2 = 0 ∧ (shR L).length ≤ L.length) :=
    Lib.hid (fun h => ⟨by unfold ltS; rw [if_pos h]; exact txtL_size h, pl_text h, sh_facts h⟩)
  have hsr := shR_len L
  generalize ltS L = s at K1 K2 HF
  have K5 := Lib.hid (fun B v W ho => c_iShorten B v (shR L) (by omega) W ho)
  generalize hM : shR L = M at *
  have HM := Lib.hid hM
  clear hM
  generalize logB L = o at K1 K2 K3 K4 HF
  go_wp2_with fail
  refine (K1.out _ (HE.out.1.below bb2) hu).mono ?_
  rintro e w3 ⟨rfl, hb3⟩
  have bb3 := below_step hb3 bb2.size bb2
  replace hu := OwnsP.below hu hb3
  clear K1 bb2 hb3
  go_wp2_with fail
  refine (K2.out _ (HE.out.1.below bb3) hu).mono ?_
  rintro e w4 ⟨rfl, hb4⟩
  have bb4 := below_step hb4 bb3.size bb3
  replace hu := OwnsP.below hu hb4
  clear K2 bb3 hb4
  go_wp2_with fail
  refine (K3.out _ hu).mono ?_
  rintro e w5 ⟨v10, rfl, o10, hb5⟩
  have bb5 := below_step hb5 bb4.size bb4
  replace hu := OwnsP.below hu hb5
  clear K3 bb4 hb5
  go_wp2_with fail
  refine (K4.out _ hu).mono ?_
  rintro e w6 ⟨v12, rfl, o12, hb6⟩
  have bb6 := below_step hb6 bb5.size bb5
  replace hu := OwnsP.below hu hb6
  replace o10 := OwnsP.below o10 hb6
  clear K4 bb5 hb6
  go_wp2_with fail
  refine (c_pSameSteps _ _ _ _ M (by omega) _ o10 o12).mono ?_
  rintro e w7 ⟨rfl, hb7⟩
  have bb7 := below_step hb7 bb6.size bb6
  replace hu := OwnsP.below hu hb7
  replace o10 := OwnsP.below o10 hb7
  replace o12 := OwnsP.below o12 hb7
  clear bb6 hb7
  go_upto_if 94 with (fail)
  go_cut [] from 267 (fun wd => Below w7.heap.size w7 wd)
  case rest =>
    have bbd := below_step hcut bb7.size bb7
    apply_assumption
    refine r15 v1 ys _ (R1.out.later bbd) (PEnv.below HE.out bbd) (fun a w' hd => ?_)
    refine bodyPost_ret (v := .bool true) ?_ hd.2.1 ⟨rfl, below_step hd.2.2 bbd.size bbd⟩
    have h4 := hd.1
    simp [results, Tryz.results3, go_sem, h4]
  case first =>
    cases o
    · go_wp2
      go_meet
      case rel => exact Below.refl _ _
    · obtain ⟨F0, ⟨F1, F2⟩, F3, F4, F5, F6⟩ := HF.out rfl
      have P1 := Lib.hid (fun W h => c_iParseLog s (by omega) W h)
      unfold PlPost at P1
      rw [F1, F2] at P1
      rw [F3, F4] at K5
      clear HF HM F1 F2 F3 F4
      have hmod : (((L.length : Int) - (M.length : Int)).tmod 2 == 0) = true := by
        rw [show (L.length : Int) - (M.length : Int) = ((L.length - M.length : Nat) : Int) by omega]
        rw [Int.tmod_eq_emod_of_nonneg (by omega)]
        simp only [beq_iff_eq]; omega
      go_wp2_with fail
      refine (P1.out _ (PEnv.below HE.out bb7)).mono ?_
      rintro e w8 ⟨v14, rfl, o14, hb8⟩
      replace hu := OwnsP.below hu hb8
      replace o10 := OwnsP.below o10 hb8
      replace o12 := OwnsP.below o12 hb8
      clear P1
      go_wp2_with fail
      refine (K5.out _ _ _ o10).mono ?_
      rintro e w9 ⟨v16, rfl, o16, hb9⟩
      have bb9 := below_step hb9 hb8.size hb8
      replace hu := OwnsP.below hu hb9
      replace o12 := OwnsP.below o12 hb9
      replace o14 := OwnsP.below o14 hb9
      clear K5 hb8 hb9 o10
      obtain ⟨su, capu, rfl, _⟩ := OwnsP.form hu
      obtain ⟨s12, cap12, rfl, _⟩ := OwnsP.form o12
      go_wp2_with fail
      refine (c_pSameSteps _ _ _ _ L (by omega) _ o14 hu).mono ?_
      rintro e w10 ⟨rfl, hb10⟩
      have bb10 := below_step hb10 bb9.size bb9
      replace o12 := OwnsP.below o12 hb10
      replace o16 := OwnsP.below o16 hb10
      clear bb9 hb10 o14 hu
      go_wp2_with fail
      refine (c_pSameSteps _ _ _ _ M (by omega) _ o16 o12).mono ?_
      rintro e w11 ⟨rfl, hb11⟩
      have bb11 := below_step hb11 bb10.size bb10
      go_wp2
      go_meet
      case rel => exact bb11
end Go.Proofs.YtpnpidepkfnofaaGreatDoor
