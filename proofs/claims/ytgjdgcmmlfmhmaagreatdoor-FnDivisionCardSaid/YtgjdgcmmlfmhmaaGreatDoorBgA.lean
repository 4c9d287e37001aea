/- Walks: sums of digits (addLimbs, bgCombine). -/
import Derived.Test.YtgjdgcmmlfmhmaaGreatDoorBgT
namespace Go.Proofs.YtgjdgcmmlfmhmaaGreatDoor
open Go.RowKit

theorem vl_take_adi (L : List Int) (i : Nat) : vl (L.take (i + 1)) = vl (L.take i) + 10000 ^ i * (L[i]?.getD 0) := by
  by_cases h : i < L.length
  · rw [vl_take_succ h]; simp [h]
  · rw [List.take_of_length_le (by omega), List.take_of_length_le (by omega)]; simp [h]
theorem Dg.adi {L : List Int} (h : Dg L) (i : Nat) : 0 ≤ L[i]?.getD 0 ∧ L[i]?.getD 0 ≤ 9999 := by
  by_cases hi : i < L.length
  · have e : L[i]?.getD 0 = L[i] := by simp [hi]
    rw [e]; exact h _ (List.getElem_mem hi)
  · simp [hi]
theorem Dg.snoc {L : List Int} (h : Dg L) {x : Int} (hx : 0 ≤ x ∧ x ≤ 9999) : Dg (L ++ [x]) := by
  intro y hy
  rcases List.mem_append.1 hy with hy | hy
  · exact h y hy
  · rw [List.mem_singleton] at hy; subst hy; exact hx
theorem vl_snoc (L : List Int) (x : Int) : vl (L ++ [x]) = vl L + 10000 ^ L.length * x := by
  rw [vl_append]; simp [vl]
/-- the state of a sum of digits before digit i -/
structure Cb (a b : List Int) (s : Int) (i : Nat) (O : List Int) (c : Int) : Prop where
  len : O.length = i
  dg : Dg O
  lo : -1 ≤ c
  hi : c ≤ 1
  eq : vl O + c * 10000 ^ i = vl (a.take i) + s * vl (b.take i)
theorem Cb.zero (a b : List Int) (s : Int) : Cb a b s 0 [] 0 := ⟨rfl, fun x hx => by simp at hx, by omega, by omega, by simp [vl]⟩
theorem Cb.step {a b : List Int} {s c x y n d c' : Int} {i : Nat} {O : List Int} (h : Cb a b s i O c) (hx : a[i]?.getD 0 = x) (hy : b[i]?.getD 0 = y) (hn : n = c + x + s * y) (hd : n = d + c' * 10000) (h0 : 0 ≤ d ∧ d ≤ 9999) (hl : -1 ≤ c' ∧ c' ≤ 1) : Cb a b s (i + 1) (O ++ [d]) c' := by
  refine ⟨by simp [h.len], h.dg.snoc h0, hl.1, hl.2, ?_⟩
  have he := h.eq
  rw [vl_snoc, h.len, vl_take_adi, vl_take_adi, hx, hy]
  have e1 : d = c + x + s * y - c' * 10000 := by omega
  rw [e1, Int.pow_succ]
  generalize (10000 : Int) ^ i = P at *
  have q1 : P * (c + x + s * y - c' * 10000) = c * P + P * x + s * (P * y) - c' * (P * 10000) := by
    rw [Int.mul_sub, Int.mul_add, Int.mul_add, Int.mul_left_comm P s y, Int.mul_left_comm P c' 10000, Int.mul_comm P c]
  rw [q1, Int.mul_add]
  generalize c' * (P * 10000) = u1
  generalize s * (P * y) = u2
  generalize P * x = u3
  generalize c * P = u4 at *
  generalize s * vl (List.take i b) = u5 at *
  omega
theorem vl_take_full (L : List Int) {i : Nat} (h : L.length ≤ i) : vl (L.take i) = vl L := by rw [List.take_of_length_le h]
theorem pw_pos : ∀ k : Nat, (1 : Int) ≤ 10000 ^ k
  | 0 => by rw [Int.pow_zero]; omega
  | k + 1 => by have := pw_pos k; rw [Int.pow_succ]; omega
theorem pw_mono (k : Nat) : ∀ j : Nat, (10000 : Int) ^ k ≤ 10000 ^ (k + j)
  | 0 => Int.le_refl _
  | j + 1 => by have := pw_mono k j; have := pw_pos (k + j); rw [← Nat.add_assoc, Int.pow_succ]; omega
theorem vl_lt {L : List Int} (h : Dg L) {m : Nat} (hm : L.length ≤ m) : vl L < 10000 ^ m := Int.lt_of_lt_of_le h.lt (by
  have := pw_mono L.length (m - L.length)
  rwa [show L.length + (m - L.length) = m by omega] at this)
theorem Cb.done {a b : List Int} {s c : Int} {i : Nat} {O : List Int} (h : Cb a b s i O c) (ha : Dg a) (hb : Dg b) (hs : s = 1 ∨ s = -1) (hla : a.length + 1 ≤ i) (hlb : b.length + 1 ≤ i) (hV : 0 ≤ vl a + s * vl b) : c = 0 ∧ vl O = vl a + s * vl b := by
  have he := h.eq
  rw [vl_take_full a (by omega), vl_take_full b (by omega)] at he
  have h1 : vl a < 10000 ^ (i - 1) := vl_lt ha (by omega)
  have h2 : vl b < 10000 ^ (i - 1) := vl_lt hb (by omega)
  have h3 := ha.nn
  have h4 := hb.nn
  have h5 := h.dg.nn
  have h6 := h.dg.lt
  rw [h.len] at h6
  have e : (10000 : Int) ^ i = 10000 ^ (i - 1) * 10000 := by
    obtain ⟨k, rfl⟩ : ∃ k, i = k + 1 := ⟨i - 1, by omega⟩
    rw [Nat.add_sub_cancel, Int.pow_succ]
  rw [e] at he h6
  generalize (10000 : Int) ^ (i - 1) = P at *
  have hc : c = 0 := by
    have := h.lo
    have := h.hi
    have : c = -1 ∨ c = 0 ∨ c = 1 := by omega
    rcases hs with rfl | rfl <;> rcases this with rfl | rfl | rfl <;> first | rfl | (exfalso; omega)
  subst hc
  exact ⟨rfl, by omega⟩
theorem OwnsI.setG {w : World} {base g n cap : Nat} {M : List Int} (h : OwnsI w base (.slice (some ⟨g, 0, none⟩) n cap) M) (hn : n = M.length) (k : Nat) (x : Int) : OwnsI (w.setCell ⟨g, k, none⟩ (.int .i64 x)) base (.slice (some ⟨g, 0, none⟩) n cap) (M.set k x) := by
  subst hn
  unfold OwnsI at h ⊢
  rw [List.length_set, List.map_set]
  exact own_set h rfl _ _
theorem made_ints' (n : Nat) : (madeCells (Value.int .i64 0).cells (n * 1)).toList = (List.replicate n (0 : Int)).map (Value.int .i64) := by
  rw [Nat.mul_one]
  show (madeCells #[Value.int .i64 0] n).toList = _
  rw [toList_madeCells_one, List.map_replicate]
/-- a new list of zeros -/
theorem mk_ints (w : World) (N : Nat) (hN : N ≤ 1000000) : ∃ wm, (Instr.makeSlice 29 (.int .i64 (N : Int)) (.int .i64 (N : Int))).run Tryz.prog w = .ok (.slice (some ⟨w.heap.size, 0, none⟩) N N) wm ∧ OwnsI wm w.heap.size (.slice (some ⟨w.heap.size, 0, none⟩) N N) (List.replicate N 0) ∧ Below w.heap.size w wm := by
  obtain ⟨i0, hi, hz0, hz1, hz2⟩ := info_parts Tryz.infoI
  obtain ⟨wm, hmk, hown, hg⟩ := run_make_full (P := Tryz.prog) w w.heap.size 29 3 i0 (.int .i64 0) 1 Tryz.underlying29 hi hz0 hz1 .i64 .i64 N (by rw [hz2]; omega) (by unfold maxLen; omega) (Nat.le_refl _)
  rw [made_ints'] at hown
  refine ⟨wm, hmk, ?_, ⟨hg.os, hg.tape, hg.output, hg.size, fun k hk => hg.block k hk (by simp)⟩⟩
  unfold OwnsI
  rw [List.length_replicate]
  exact hown
def fz (O : List Int) (m : Nat) : List Int := O ++ List.replicate (m - O.length) 0
theorem fz_len {O : List Int} {m : Nat} (h : O.length ≤ m) : (fz O m).length = m := by simp [fz]; omega
theorem fz_set {O : List Int} {m i : Nat} (hi : O.length = i) (h : i < m) (x : Int) : (fz O m).set i x = fz (O ++ [x]) m := by
  unfold fz
  obtain ⟨k, hk⟩ : ∃ k, m - i = k + 1 := ⟨m - i - 1, by omega⟩
  rw [hi, hk, List.replicate_succ, List.set_append, if_neg (by omega), hi, Nat.sub_self, List.set_cons_zero, List.append_assoc, List.length_append, hi, List.length_singleton, show m - (i + 1) = k by omega]
  rfl
theorem fz_full {O : List Int} {m : Nat} (h : O.length = m) : fz O m = O := by simp [fz, h]
/-- a sum of digits is returned, in a block of its own -/
def SmP (V : Int) (n : Nat) (w : World) (e : Ending) (w' : World) : Prop := ∃ v O, e = .returned v ∧ OwnsI w' w.heap.size v O ∧ Dg O ∧ vl O = V ∧ O.length ≤ n ∧ Below w.heap.size w w'
set_option maxHeartbeats 4000000 in
set_option maxRecDepth 20000 in
theorem c_addLimbs (s : Int) (hs : s = 1 ∨ s = -1) (a b : Value) (la lb : List Int) (hla : la.length ≤ 100000) (hlb : lb.length ≤ 100000) (hda : Dg la) (hdb : Dg lb) (hV : 0 ≤ vl la + s * vl lb) (w : World) (ha : RdL w a la) (hb' : RdL w b lb) :
    Calls Tryz.prog 119 #[a, b, .int .i64 s] w (SmP (vl la + s * vl lb) (max la.length lb.length + 1) w) := by
  obtain ⟨aa, ca, rfl, _, hca⟩ := ha
  obtain ⟨ab, cb, rfl, _, hcb⟩ := hb'
  obtain ⟨m, hm⟩ : ∃ m, m = max la.length lb.length := ⟨_, rfl⟩
  obtain ⟨wm, hmk, ho0, hb0⟩ := mk_ints w (m + 1) (by omega)
  have HA := Lib.hid hca
  have HA2 := Lib.hid hcb
  simp only [Int.natCast_add, Int.cast_ofNat_Int] at hmk
  clear hca hcb
  have ez : List.replicate (m + 1) (0 : Int) = fz [] (m + 1) := by simp [fz]
  rw [ez] at ho0
  rw [← hm]
  generalize hbb : w.heap.size = B at hmk ho0 hb0
  have HB := Lib.hid hbb
  clear hbb
  have HV := Lib.hid hV
  clear hV
  rcases Nat.lt_or_ge la.length lb.length with hx | hx
  · have hx1 : (la.length : Int) < lb.length := by omega
    have hx2 : ¬ (lb.length : Int) ≤ la.length := by omega
    obtain rfl : m = lb.length := by omega
    clear hm
    rcases hs with rfl | rfl
    · -- 1: the sign, lb.length: the length, : the sign's text
      go_enter Tryz.func119, Tryz.ntmps119
      go_wp2
      go_loopw [8, 20] (fun cv iv wr => ∃ (i : Nat) (O : List Int) (c : Int), i ≤ lb.length + 1 ∧ cv = .int .i64 c ∧ iv = .int .i64 i ∧ Hid (Cb la lb (1) i O c) ∧ OwnsI wr B (.slice (some ⟨B, 0, none⟩) (lb.length + 1) (lb.length + 1)) (fz O (lb.length + 1)) ∧ Below B w wr) (fun _ iv _ => lb.length + 1 - (intOf iv).toNat)
      case atStart => exact ⟨0, [], 0, by omega, rfl, rfl, Lib.hid (Cb.zero _ _ _), ho0, hb0⟩
      case round =>
        clear ho0 hb0
        obtain ⟨i, O, c, hi, rfl, rfl, hC, ho, hb⟩ := hrel
        have hlo := Lib.hid hC.out.len
        by_cases hlt : i < lb.length + 1
        · have hxa := hda.adi i
          have hyb := hdb.adi i
          have hclo := hC.out.lo
          have hchi := hC.out.hi
          have s1 := ho.cell (i := i) (by rw [fz_len (by have := hlo.out; omega)]; exact hlt)
          have f1 := ho.frozen i
          by_cases hia : i < la.length
          · obtain ⟨ga, oa, rfl, q1, hga⟩ := HA.out i hia
            have d1 := (hb.cell (p := ⟨ga, oa + i, none⟩) (HB.out ▸ hga)).trans q1
            generalize ex : la[i]?.getD 0 = x at d1 hxa
            clear q1
            -- c + x + y: the number with b, c + x: the one without
            by_cases hib : i < lb.length
            · obtain ⟨gb, ob, rfl, q2, hgb⟩ := HA2.out i hib
              have d2 := (hb.cell (p := ⟨gb, ob + i, none⟩) (HB.out ▸ hgb)).trans q2
              generalize ey : lb[i]?.getD 0 = y at d2 hyb
              clear q2
              rcases (by omega : c + x + y < 0 ∨ 10000 ≤ c + x + y ∨ (0 ≤ c + x + y ∧ c + x + y ≤ 9999)) with hn | hn | hn
              · -- c + x + y + 10000: the digit, -1: the carry
                first
                  | (exfalso; omega)
                  | have hC2 := Lib.hid (hC.out.step (d := c + x + y + 10000) (c' := -1) ex ey rfl (by omega) (by omega) (by omega))
                    clear ex ey HA HA2
                    clear hi
                    go_wp2
                    go_roundw
                    case rel => exact ⟨i + 1, O ++ [c + x + y + 10000], -1, by omega, by go_num, by go_num, hC2, by rw [← fz_set hlo.out (by omega)]; exact ho.setG (fz_len (by have := hlo.out; omega)).symm i _, hb.setCell (Nat.le_refl _) _⟩
                    case measure => simp [intOf]; omega
              · -- c + x + y - 10000: the digit, 1: the carry
                first
                  | (exfalso; omega)
                  | have hC2 := Lib.hid (hC.out.step (d := c + x + y - 10000) (c' := 1) ex ey rfl (by omega) (by omega) (by omega))
                    clear ex ey HA HA2
                    clear hi
                    go_wp2
                    go_roundw
                    case rel => exact ⟨i + 1, O ++ [c + x + y - 10000], 1, by omega, by go_num, by go_num, hC2, by rw [← fz_set hlo.out (by omega)]; exact ho.setG (fz_len (by have := hlo.out; omega)).symm i _, hb.setCell (Nat.le_refl _) _⟩
                    case measure => simp [intOf]; omega
              · -- c + x + y: the digit, 0: the carry
                first
                  | (exfalso; omega)
                  | have hC2 := Lib.hid (hC.out.step (d := c + x + y) (c' := 0) ex ey rfl (by omega) (by omega) (by omega))
                    clear ex ey HA HA2
                    clear hi
                    go_wp2
                    go_roundw
                    case rel => exact ⟨i + 1, O ++ [c + x + y], 0, by omega, by go_num, by go_num, hC2, by rw [← fz_set hlo.out (by omega)]; exact ho.setG (fz_len (by have := hlo.out; omega)).symm i _, hb.setCell (Nat.le_refl _) _⟩
                    case measure => simp [intOf]; omega
            · have ey : lb[i]?.getD 0 = 0 := by simp [hib]
              clear hyb
              rcases (by omega : c + x < 0 ∨ 10000 ≤ c + x ∨ (0 ≤ c + x ∧ c + x ≤ 9999)) with hn | hn | hn
              · -- c + x + 10000: the digit, -1: the carry
                first
                  | (exfalso; omega)
                  | have hC2 := Lib.hid (hC.out.step (d := c + x + 10000) (c' := -1) ex ey rfl (by omega) (by omega) (by omega))
                    clear ex ey HA HA2
                    clear hi
                    go_wp2
                    go_roundw
                    case rel => exact ⟨i + 1, O ++ [c + x + 10000], -1, by omega, by go_num, by go_num, hC2, by rw [← fz_set hlo.out (by omega)]; exact ho.setG (fz_len (by have := hlo.out; omega)).symm i _, hb.setCell (Nat.le_refl _) _⟩
                    case measure => simp [intOf]; omega
              · -- c + x - 10000: the digit, 1: the carry
                first
                  | (exfalso; omega)
                  | have hC2 := Lib.hid (hC.out.step (d := c + x - 10000) (c' := 1) ex ey rfl (by omega) (by omega) (by omega))
                    clear ex ey HA HA2
                    clear hi
                    go_wp2
                    go_roundw
                    case rel => exact ⟨i + 1, O ++ [c + x - 10000], 1, by omega, by go_num, by go_num, hC2, by rw [← fz_set hlo.out (by omega)]; exact ho.setG (fz_len (by have := hlo.out; omega)).symm i _, hb.setCell (Nat.le_refl _) _⟩
                    case measure => simp [intOf]; omega
              · -- c + x: the digit, 0: the carry
                first
                  | (exfalso; omega)
                  | have hC2 := Lib.hid (hC.out.step (d := c + x) (c' := 0) ex ey rfl (by omega) (by omega) (by omega))
                    clear ex ey HA HA2
                    clear hi
                    go_wp2
                    go_roundw
                    case rel => exact ⟨i + 1, O ++ [c + x], 0, by omega, by go_num, by go_num, hC2, by rw [← fz_set hlo.out (by omega)]; exact ho.setG (fz_len (by have := hlo.out; omega)).symm i _, hb.setCell (Nat.le_refl _) _⟩
                    case measure => simp [intOf]; omega
          · have ex : la[i]?.getD 0 = 0 := by simp [hia]
            clear hxa
            -- c + y: the number with b, c: the one without
            by_cases hib : i < lb.length
            · obtain ⟨gb, ob, rfl, q2, hgb⟩ := HA2.out i hib
              have d2 := (hb.cell (p := ⟨gb, ob + i, none⟩) (HB.out ▸ hgb)).trans q2
              generalize ey : lb[i]?.getD 0 = y at d2 hyb
              clear q2
              rcases (by omega : c + y < 0 ∨ 10000 ≤ c + y ∨ (0 ≤ c + y ∧ c + y ≤ 9999)) with hn | hn | hn
              · -- c + y + 10000: the digit, -1: the carry
                first
                  | (exfalso; omega)
                  | have hC2 := Lib.hid (hC.out.step (d := c + y + 10000) (c' := -1) ex ey rfl (by omega) (by omega) (by omega))
                    clear ex ey HA HA2
                    clear hi
                    go_wp2
                    go_roundw
                    case rel => exact ⟨i + 1, O ++ [c + y + 10000], -1, by omega, by go_num, by go_num, hC2, by rw [← fz_set hlo.out (by omega)]; exact ho.setG (fz_len (by have := hlo.out; omega)).symm i _, hb.setCell (Nat.le_refl _) _⟩
                    case measure => simp [intOf]; omega
              · -- c + y - 10000: the digit, 1: the carry
                first
                  | (exfalso; omega)
                  | have hC2 := Lib.hid (hC.out.step (d := c + y - 10000) (c' := 1) ex ey rfl (by omega) (by omega) (by omega))
                    clear ex ey HA HA2
                    clear hi
                    go_wp2
                    go_roundw
                    case rel => exact ⟨i + 1, O ++ [c + y - 10000], 1, by omega, by go_num, by go_num, hC2, by rw [← fz_set hlo.out (by omega)]; exact ho.setG (fz_len (by have := hlo.out; omega)).symm i _, hb.setCell (Nat.le_refl _) _⟩
                    case measure => simp [intOf]; omega
              · -- c + y: the digit, 0: the carry
                first
                  | (exfalso; omega)
                  | have hC2 := Lib.hid (hC.out.step (d := c + y) (c' := 0) ex ey rfl (by omega) (by omega) (by omega))
                    clear ex ey HA HA2
                    clear hi
                    go_wp2
                    go_roundw
                    case rel => exact ⟨i + 1, O ++ [c + y], 0, by omega, by go_num, by go_num, hC2, by rw [← fz_set hlo.out (by omega)]; exact ho.setG (fz_len (by have := hlo.out; omega)).symm i _, hb.setCell (Nat.le_refl _) _⟩
                    case measure => simp [intOf]; omega
            · have ey : lb[i]?.getD 0 = 0 := by simp [hib]
              clear hyb
              rcases (by omega : c < 0 ∨ 10000 ≤ c ∨ (0 ≤ c ∧ c ≤ 9999)) with hn | hn | hn
              · -- c + 10000: the digit, -1: the carry
                first
                  | (exfalso; omega)
                  | have hC2 := Lib.hid (hC.out.step (d := c + 10000) (c' := -1) ex ey rfl (by omega) (by omega) (by omega))
                    clear ex ey HA HA2
                    clear hi
                    go_wp2
                    go_roundw
                    case rel => exact ⟨i + 1, O ++ [c + 10000], -1, by omega, by go_num, by go_num, hC2, by rw [← fz_set hlo.out (by omega)]; exact ho.setG (fz_len (by have := hlo.out; omega)).symm i _, hb.setCell (Nat.le_refl _) _⟩
                    case measure => simp [intOf]; omega
              · -- c - 10000: the digit, 1: the carry
                first
                  | (exfalso; omega)
                  | have hC2 := Lib.hid (hC.out.step (d := c - 10000) (c' := 1) ex ey rfl (by omega) (by omega) (by omega))
                    clear ex ey HA HA2
                    clear hi
                    go_wp2
                    go_roundw
                    case rel => exact ⟨i + 1, O ++ [c - 10000], 1, by omega, by go_num, by go_num, hC2, by rw [← fz_set hlo.out (by omega)]; exact ho.setG (fz_len (by have := hlo.out; omega)).symm i _, hb.setCell (Nat.le_refl _) _⟩
                    case measure => simp [intOf]; omega
              · -- c: the digit, 0: the carry
                first
                  | (exfalso; omega)
                  | have hC2 := Lib.hid (hC.out.step (d := c) (c' := 0) ex ey rfl (by omega) (by omega) (by omega))
                    clear ex ey HA HA2
                    clear hi
                    go_wp2
                    go_roundw
                    case rel => exact ⟨i + 1, O ++ [c], 0, by omega, by go_num, by go_num, hC2, by rw [← fz_set hlo.out (by omega)]; exact ho.setG (fz_len (by have := hlo.out; omega)).symm i _, hb.setCell (Nat.le_refl _) _⟩
                    case measure => simp [intOf]; omega
        · obtain rfl : i = lb.length + 1 := by omega
          obtain ⟨_, hvo⟩ := hC.out.done hda hdb (.inl rfl) (by omega) (by omega) HV.out
          have hdo := hC.out.dg
          rw [fz_full hlo.out] at ho
          have HE := Lib.hid (And.intro hdo hvo)
          clear hvo hdo
          go_wp2
          go_ret
          exact ⟨_, O, rfl, ho.le (by rw [HB.out]; exact Nat.le_refl _), HE.out.1, HE.out.2, by have := hlo.out; omega, HB.out ▸ hb⟩
    · -- -1: the sign, lb.length: the length, -: the sign's text
      go_enter Tryz.func119, Tryz.ntmps119
      go_wp2
      go_loopw [8, 20] (fun cv iv wr => ∃ (i : Nat) (O : List Int) (c : Int), i ≤ lb.length + 1 ∧ cv = .int .i64 c ∧ iv = .int .i64 i ∧ Hid (Cb la lb (-1) i O c) ∧ OwnsI wr B (.slice (some ⟨B, 0, none⟩) (lb.length + 1) (lb.length + 1)) (fz O (lb.length + 1)) ∧ Below B w wr) (fun _ iv _ => lb.length + 1 - (intOf iv).toNat)
      case atStart => exact ⟨0, [], 0, by omega, rfl, rfl, Lib.hid (Cb.zero _ _ _), ho0, hb0⟩
      case round =>
        clear ho0 hb0
        obtain ⟨i, O, c, hi, rfl, rfl, hC, ho, hb⟩ := hrel
        have hlo := Lib.hid hC.out.len
        by_cases hlt : i < lb.length + 1
        · have hxa := hda.adi i
          have hyb := hdb.adi i
          have hclo := hC.out.lo
          have hchi := hC.out.hi
          have s1 := ho.cell (i := i) (by rw [fz_len (by have := hlo.out; omega)]; exact hlt)
          have f1 := ho.frozen i
          by_cases hia : i < la.length
          · obtain ⟨ga, oa, rfl, q1, hga⟩ := HA.out i hia
            have d1 := (hb.cell (p := ⟨ga, oa + i, none⟩) (HB.out ▸ hga)).trans q1
            generalize ex : la[i]?.getD 0 = x at d1 hxa
            clear q1
            -- c + x + -y: the number with b, c + x: the one without
            by_cases hib : i < lb.length
            · obtain ⟨gb, ob, rfl, q2, hgb⟩ := HA2.out i hib
              have d2 := (hb.cell (p := ⟨gb, ob + i, none⟩) (HB.out ▸ hgb)).trans q2
              generalize ey : lb[i]?.getD 0 = y at d2 hyb
              clear q2
              rcases (by omega : c + x + -y < 0 ∨ 10000 ≤ c + x + -y ∨ (0 ≤ c + x + -y ∧ c + x + -y ≤ 9999)) with hn | hn | hn
              · -- c + x + -y + 10000: the digit, -1: the carry
                first
                  | (exfalso; omega)
                  | have hC2 := Lib.hid (hC.out.step (d := c + x + -y + 10000) (c' := -1) ex ey rfl (by omega) (by omega) (by omega))
                    clear ex ey HA HA2
                    clear hi
                    go_wp2
                    go_roundw
                    case rel => exact ⟨i + 1, O ++ [c + x + -y + 10000], -1, by omega, by go_num, by go_num, hC2, by rw [← fz_set hlo.out (by omega)]; exact ho.setG (fz_len (by have := hlo.out; omega)).symm i _, hb.setCell (Nat.le_refl _) _⟩
                    case measure => simp [intOf]; omega
              · -- c + x + -y - 10000: the digit, 1: the carry
                first
                  | (exfalso; omega)
                  | have hC2 := Lib.hid (hC.out.step (d := c + x + -y - 10000) (c' := 1) ex ey rfl (by omega) (by omega) (by omega))
                    clear ex ey HA HA2
                    clear hi
                    go_wp2
                    go_roundw
                    case rel => exact ⟨i + 1, O ++ [c + x + -y - 10000], 1, by omega, by go_num, by go_num, hC2, by rw [← fz_set hlo.out (by omega)]; exact ho.setG (fz_len (by have := hlo.out; omega)).symm i _, hb.setCell (Nat.le_refl _) _⟩
                    case measure => simp [intOf]; omega
              · -- c + x + -y: the digit, 0: the carry
                first
                  | (exfalso; omega)
                  | have hC2 := Lib.hid (hC.out.step (d := c + x + -y) (c' := 0) ex ey rfl (by omega) (by omega) (by omega))
                    clear ex ey HA HA2
                    clear hi
                    go_wp2
                    go_roundw
                    case rel => exact ⟨i + 1, O ++ [c + x + -y], 0, by omega, by go_num, by go_num, hC2, by rw [← fz_set hlo.out (by omega)]; exact ho.setG (fz_len (by have := hlo.out; omega)).symm i _, hb.setCell (Nat.le_refl _) _⟩
                    case measure => simp [intOf]; omega
            · have ey : lb[i]?.getD 0 = 0 := by simp [hib]
              clear hyb
              rcases (by omega : c + x < 0 ∨ 10000 ≤ c + x ∨ (0 ≤ c + x ∧ c + x ≤ 9999)) with hn | hn | hn
              · -- c + x + 10000: the digit, -1: the carry
                first
                  | (exfalso; omega)
                  | have hC2 := Lib.hid (hC.out.step (d := c + x + 10000) (c' := -1) ex ey rfl (by omega) (by omega) (by omega))
                    clear ex ey HA HA2
                    clear hi
                    go_wp2
                    go_roundw
                    case rel => exact ⟨i + 1, O ++ [c + x + 10000], -1, by omega, by go_num, by go_num, hC2, by rw [← fz_set hlo.out (by omega)]; exact ho.setG (fz_len (by have := hlo.out; omega)).symm i _, hb.setCell (Nat.le_refl _) _⟩
                    case measure => simp [intOf]; omega
              · -- c + x - 10000: the digit, 1: the carry
                first
                  | (exfalso; omega)
                  | have hC2 := Lib.hid (hC.out.step (d := c + x - 10000) (c' := 1) ex ey rfl (by omega) (by omega) (by omega))
                    clear ex ey HA HA2
                    clear hi
                    go_wp2
                    go_roundw
                    case rel => exact ⟨i + 1, O ++ [c + x - 10000], 1, by omega, by go_num, by go_num, hC2, by rw [← fz_set hlo.out (by omega)]; exact ho.setG (fz_len (by have := hlo.out; omega)).symm i _, hb.setCell (Nat.le_refl _) _⟩
                    case measure => simp [intOf]; omega
              · -- c + x: the digit, 0: the carry
                first
                  | (exfalso; omega)
                  | have hC2 := Lib.hid (hC.out.step (d := c + x) (c' := 0) ex ey rfl (by omega) (by omega) (by omega))
                    clear ex ey HA HA2
                    clear hi
                    go_wp2
                    go_roundw
                    case rel => exact ⟨i + 1, O ++ [c + x], 0, by omega, by go_num, by go_num, hC2, by rw [← fz_set hlo.out (by omega)]; exact ho.setG (fz_len (by have := hlo.out; omega)).symm i _, hb.setCell (Nat.le_refl _) _⟩
                    case measure => simp [intOf]; omega
          · have ex : la[i]?.getD 0 = 0 := by simp [hia]
            clear hxa
            -- c + -y: the number with b, c: the one without
            by_cases hib : i < lb.length
            · obtain ⟨gb, ob, rfl, q2, hgb⟩ := HA2.out i hib
              have d2 := (hb.cell (p := ⟨gb, ob + i, none⟩) (HB.out ▸ hgb)).trans q2
              generalize ey : lb[i]?.getD 0 = y at d2 hyb
              clear q2
              rcases (by omega : c + -y < 0 ∨ 10000 ≤ c + -y ∨ (0 ≤ c + -y ∧ c + -y ≤ 9999)) with hn | hn | hn
              · -- c + -y + 10000: the digit, -1: the carry
                first
                  | (exfalso; omega)
                  | have hC2 := Lib.hid (hC.out.step (d := c + -y + 10000) (c' := -1) ex ey rfl (by omega) (by omega) (by omega))
                    clear ex ey HA HA2
                    clear hi
                    go_wp2
                    go_roundw
                    case rel => exact ⟨i + 1, O ++ [c + -y + 10000], -1, by omega, by go_num, by go_num, hC2, by rw [← fz_set hlo.out (by omega)]; exact ho.setG (fz_len (by have := hlo.out; omega)).symm i _, hb.setCell (Nat.le_refl _) _⟩
                    case measure => simp [intOf]; omega
              · -- c + -y - 10000: the digit, 1: the carry
                first
                  | (exfalso; omega)
                  | have hC2 := Lib.hid (hC.out.step (d := c + -y - 10000) (c' := 1) ex ey rfl (by omega) (by omega) (by omega))
                    clear ex ey HA HA2
                    clear hi
                    go_wp2
                    go_roundw
                    case rel => exact ⟨i + 1, O ++ [c + -y - 10000], 1, by omega, by go_num, by go_num, hC2, by rw [← fz_set hlo.out (by omega)]; exact ho.setG (fz_len (by have := hlo.out; omega)).symm i _, hb.setCell (Nat.le_refl _) _⟩
                    case measure => simp [intOf]; omega
              · -- c + -y: the digit, 0: the carry
                first
                  | (exfalso; omega)
                  | have hC2 := Lib.hid (hC.out.step (d := c + -y) (c' := 0) ex ey rfl (by omega) (by omega) (by omega))
                    clear ex ey HA HA2
                    clear hi
                    go_wp2
                    go_roundw
                    case rel => exact ⟨i + 1, O ++ [c + -y], 0, by omega, by go_num, by go_num, hC2, by rw [← fz_set hlo.out (by omega)]; exact ho.setG (fz_len (by have := hlo.out; omega)).symm i _, hb.setCell (Nat.le_refl _) _⟩
                    case measure => simp [intOf]; omega
            · have ey : lb[i]?.getD 0 = 0 := by simp [hib]
              clear hyb
              rcases (by omega : c < 0 ∨ 10000 ≤ c ∨ (0 ≤ c ∧ c ≤ 9999)) with hn | hn | hn
              · -- c + 10000: the digit, -1: the carry
                first
                  | (exfalso; omega)
                  | have hC2 := Lib.hid (hC.out.step (d := c + 10000) (c' := -1) ex ey rfl (by omega) (by omega) (by omega))
                    clear ex ey HA HA2
                    clear hi
                    go_wp2
                    go_roundw
                    case rel => exact ⟨i + 1, O ++ [c + 10000], -1, by omega, by go_num, by go_num, hC2, by rw [← fz_set hlo.out (by omega)]; exact ho.setG (fz_len (by have := hlo.out; omega)).symm i _, hb.setCell (Nat.le_refl _) _⟩
                    case measure => simp [intOf]; omega
              · -- c - 10000: the digit, 1: the carry
                first
                  | (exfalso; omega)
                  | have hC2 := Lib.hid (hC.out.step (d := c - 10000) (c' := 1) ex ey rfl (by omega) (by omega) (by omega))
                    clear ex ey HA HA2
                    clear hi
                    go_wp2
                    go_roundw
                    case rel => exact ⟨i + 1, O ++ [c - 10000], 1, by omega, by go_num, by go_num, hC2, by rw [← fz_set hlo.out (by omega)]; exact ho.setG (fz_len (by have := hlo.out; omega)).symm i _, hb.setCell (Nat.le_refl _) _⟩
                    case measure => simp [intOf]; omega
              · -- c: the digit, 0: the carry
                first
                  | (exfalso; omega)
                  | have hC2 := Lib.hid (hC.out.step (d := c) (c' := 0) ex ey rfl (by omega) (by omega) (by omega))
                    clear ex ey HA HA2
                    clear hi
                    go_wp2
                    go_roundw
                    case rel => exact ⟨i + 1, O ++ [c], 0, by omega, by go_num, by go_num, hC2, by rw [← fz_set hlo.out (by omega)]; exact ho.setG (fz_len (by have := hlo.out; omega)).symm i _, hb.setCell (Nat.le_refl _) _⟩
                    case measure => simp [intOf]; omega
        · obtain rfl : i = lb.length + 1 := by omega
          obtain ⟨_, hvo⟩ := hC.out.done hda hdb (.inr rfl) (by omega) (by omega) HV.out
          have hdo := hC.out.dg
          rw [fz_full hlo.out] at ho
          have HE := Lib.hid (And.intro hdo hvo)
          clear hvo hdo
          go_wp2
          go_ret
          exact ⟨_, O, rfl, ho.le (by rw [HB.out]; exact Nat.le_refl _), HE.out.1, HE.out.2, by have := hlo.out; omega, HB.out ▸ hb⟩
  · have hx1 : ¬ (la.length : Int) < lb.length := by omega
    have hx2 : (lb.length : Int) ≤ la.length := by omega
    obtain rfl : m = la.length := by omega
    clear hm
    rcases hs with rfl | rfl
    · -- 1: the sign, la.length: the length, : the sign's text
      go_enter Tryz.func119, Tryz.ntmps119
      go_wp2
      go_loopw [8, 20] (fun cv iv wr => ∃ (i : Nat) (O : List Int) (c : Int), i ≤ la.length + 1 ∧ cv = .int .i64 c ∧ iv = .int .i64 i ∧ Hid (Cb la lb (1) i O c) ∧ OwnsI wr B (.slice (some ⟨B, 0, none⟩) (la.length + 1) (la.length + 1)) (fz O (la.length + 1)) ∧ Below B w wr) (fun _ iv _ => la.length + 1 - (intOf iv).toNat)
      case atStart => exact ⟨0, [], 0, by omega, rfl, rfl, Lib.hid (Cb.zero _ _ _), ho0, hb0⟩
      case round =>
        clear ho0 hb0
        obtain ⟨i, O, c, hi, rfl, rfl, hC, ho, hb⟩ := hrel
        have hlo := Lib.hid hC.out.len
        by_cases hlt : i < la.length + 1
        · have hxa := hda.adi i
          have hyb := hdb.adi i
          have hclo := hC.out.lo
          have hchi := hC.out.hi
          have s1 := ho.cell (i := i) (by rw [fz_len (by have := hlo.out; omega)]; exact hlt)
          have f1 := ho.frozen i
          by_cases hia : i < la.length
          · obtain ⟨ga, oa, rfl, q1, hga⟩ := HA.out i hia
            have d1 := (hb.cell (p := ⟨ga, oa + i, none⟩) (HB.out ▸ hga)).trans q1
            generalize ex : la[i]?.getD 0 = x at d1 hxa
            clear q1
            -- c + x + y: the number with b, c + x: the one without
            by_cases hib : i < lb.length
            · obtain ⟨gb, ob, rfl, q2, hgb⟩ := HA2.out i hib
              have d2 := (hb.cell (p := ⟨gb, ob + i, none⟩) (HB.out ▸ hgb)).trans q2
              generalize ey : lb[i]?.getD 0 = y at d2 hyb
              clear q2
              rcases (by omega : c + x + y < 0 ∨ 10000 ≤ c + x + y ∨ (0 ≤ c + x + y ∧ c + x + y ≤ 9999)) with hn | hn | hn
              · -- c + x + y + 10000: the digit, -1: the carry
                first
                  | (exfalso; omega)
                  | have hC2 := Lib.hid (hC.out.step (d := c + x + y + 10000) (c' := -1) ex ey rfl (by omega) (by omega) (by omega))
                    clear ex ey HA HA2
                    clear hi
                    go_wp2
                    go_roundw
                    case rel => exact ⟨i + 1, O ++ [c + x + y + 10000], -1, by omega, by go_num, by go_num, hC2, by rw [← fz_set hlo.out (by omega)]; exact ho.setG (fz_len (by have := hlo.out; omega)).symm i _, hb.setCell (Nat.le_refl _) _⟩
                    case measure => simp [intOf]; omega
              · -- c + x + y - 10000: the digit, 1: the carry
                first
                  | (exfalso; omega)
                  | have hC2 := Lib.hid (hC.out.step (d := c + x + y - 10000) (c' := 1) ex ey rfl (by omega) (by omega) (by omega))
                    clear ex ey HA HA2
                    clear hi
                    go_wp2
                    go_roundw
                    case rel => exact ⟨i + 1, O ++ [c + x + y - 10000], 1, by omega, by go_num, by go_num, hC2, by rw [← fz_set hlo.out (by omega)]; exact ho.setG (fz_len (by have := hlo.out; omega)).symm i _, hb.setCell (Nat.le_refl _) _⟩
                    case measure => simp [intOf]; omega
              · -- c + x + y: the digit, 0: the carry
                first
                  | (exfalso; omega)
                  | have hC2 := Lib.hid (hC.out.step (d := c + x + y) (c' := 0) ex ey rfl (by omega) (by omega) (by omega))
                    clear ex ey HA HA2
                    clear hi
                    go_wp2
                    go_roundw
                    case rel => exact ⟨i + 1, O ++ [c + x + y], 0, by omega, by go_num, by go_num, hC2, by rw [← fz_set hlo.out (by omega)]; exact ho.setG (fz_len (by have := hlo.out; omega)).symm i _, hb.setCell (Nat.le_refl _) _⟩
                    case measure => simp [intOf]; omega
            · have ey : lb[i]?.getD 0 = 0 := by simp [hib]
              clear hyb
              rcases (by omega : c + x < 0 ∨ 10000 ≤ c + x ∨ (0 ≤ c + x ∧ c + x ≤ 9999)) with hn | hn | hn
              · -- c + x + 10000: the digit, -1: the carry
                first
                  | (exfalso; omega)
                  | have hC2 := Lib.hid (hC.out.step (d := c + x + 10000) (c' := -1) ex ey rfl (by omega) (by omega) (by omega))
                    clear ex ey HA HA2
                    clear hi
                    go_wp2
                    go_roundw
                    case rel => exact ⟨i + 1, O ++ [c + x + 10000], -1, by omega, by go_num, by go_num, hC2, by rw [← fz_set hlo.out (by omega)]; exact ho.setG (fz_len (by have := hlo.out; omega)).symm i _, hb.setCell (Nat.le_refl _) _⟩
                    case measure => simp [intOf]; omega
              · -- c + x - 10000: the digit, 1: the carry
                first
                  | (exfalso; omega)
                  | have hC2 := Lib.hid (hC.out.step (d := c + x - 10000) (c' := 1) ex ey rfl (by omega) (by omega) (by omega))
                    clear ex ey HA HA2
                    clear hi
                    go_wp2
                    go_roundw
                    case rel => exact ⟨i + 1, O ++ [c + x - 10000], 1, by omega, by go_num, by go_num, hC2, by rw [← fz_set hlo.out (by omega)]; exact ho.setG (fz_len (by have := hlo.out; omega)).symm i _, hb.setCell (Nat.le_refl _) _⟩
                    case measure => simp [intOf]; omega
              · -- c + x: the digit, 0: the carry
                first
                  | (exfalso; omega)
                  | have hC2 := Lib.hid (hC.out.step (d := c + x) (c' := 0) ex ey rfl (by omega) (by omega) (by omega))
                    clear ex ey HA HA2
                    clear hi
                    go_wp2
                    go_roundw
                    case rel => exact ⟨i + 1, O ++ [c + x], 0, by omega, by go_num, by go_num, hC2, by rw [← fz_set hlo.out (by omega)]; exact ho.setG (fz_len (by have := hlo.out; omega)).symm i _, hb.setCell (Nat.le_refl _) _⟩
                    case measure => simp [intOf]; omega
          · have ex : la[i]?.getD 0 = 0 := by simp [hia]
            clear hxa
            -- c + y: the number with b, c: the one without
            by_cases hib : i < lb.length
            · obtain ⟨gb, ob, rfl, q2, hgb⟩ := HA2.out i hib
              have d2 := (hb.cell (p := ⟨gb, ob + i, none⟩) (HB.out ▸ hgb)).trans q2
              generalize ey : lb[i]?.getD 0 = y at d2 hyb
              clear q2
              rcases (by omega : c + y < 0 ∨ 10000 ≤ c + y ∨ (0 ≤ c + y ∧ c + y ≤ 9999)) with hn | hn | hn
              · -- c + y + 10000: the digit, -1: the carry
                first
                  | (exfalso; omega)
                  | have hC2 := Lib.hid (hC.out.step (d := c + y + 10000) (c' := -1) ex ey rfl (by omega) (by omega) (by omega))
                    clear ex ey HA HA2
                    clear hi
                    go_wp2
                    go_roundw
                    case rel => exact ⟨i + 1, O ++ [c + y + 10000], -1, by omega, by go_num, by go_num, hC2, by rw [← fz_set hlo.out (by omega)]; exact ho.setG (fz_len (by have := hlo.out; omega)).symm i _, hb.setCell (Nat.le_refl _) _⟩
                    case measure => simp [intOf]; omega
              · -- c + y - 10000: the digit, 1: the carry
                first
                  | (exfalso; omega)
                  | have hC2 := Lib.hid (hC.out.step (d := c + y - 10000) (c' := 1) ex ey rfl (by omega) (by omega) (by omega))
                    clear ex ey HA HA2
                    clear hi
                    go_wp2
                    go_roundw
                    case rel => exact ⟨i + 1, O ++ [c + y - 10000], 1, by omega, by go_num, by go_num, hC2, by rw [← fz_set hlo.out (by omega)]; exact ho.setG (fz_len (by have := hlo.out; omega)).symm i _, hb.setCell (Nat.le_refl _) _⟩
                    case measure => simp [intOf]; omega
              · -- c + y: the digit, 0: the carry
                first
                  | (exfalso; omega)
                  | have hC2 := Lib.hid (hC.out.step (d := c + y) (c' := 0) ex ey rfl (by omega) (by omega) (by omega))
                    clear ex ey HA HA2
                    clear hi
                    go_wp2
                    go_roundw
                    case rel => exact ⟨i + 1, O ++ [c + y], 0, by omega, by go_num, by go_num, hC2, by rw [← fz_set hlo.out (by omega)]; exact ho.setG (fz_len (by have := hlo.out; omega)).symm i _, hb.setCell (Nat.le_refl _) _⟩
                    case measure => simp [intOf]; omega
            · have ey : lb[i]?.getD 0 = 0 := by simp [hib]
              clear hyb
              rcases (by omega : c < 0 ∨ 10000 ≤ c ∨ (0 ≤ c ∧ c ≤ 9999)) with hn | hn | hn
              · -- c + 10000: the digit, -1: the carry
                first
                  | (exfalso; omega)
                  | have hC2 := Lib.hid (hC.out.step (d := c + 10000) (c' := -1) ex ey rfl (by omega) (by omega) (by omega))
                    clear ex ey HA HA2
                    clear hi
                    go_wp2
                    go_roundw
                    case rel => exact ⟨i + 1, O ++ [c + 10000], -1, by omega, by go_num, by go_num, hC2, by rw [← fz_set hlo.out (by omega)]; exact ho.setG (fz_len (by have := hlo.out; omega)).symm i _, hb.setCell (Nat.le_refl _) _⟩
                    case measure => simp [intOf]; omega
              · -- c - 10000: the digit, 1: the carry
                first
                  | (exfalso; omega)
                  | have hC2 := Lib.hid (hC.out.step (d := c - 10000) (c' := 1) ex ey rfl (by omega) (by omega) (by omega))
                    clear ex ey HA HA2
                    clear hi
                    go_wp2
                    go_roundw
                    case rel => exact ⟨i + 1, O ++ [c - 10000], 1, by omega, by go_num, by go_num, hC2, by rw [← fz_set hlo.out (by omega)]; exact ho.setG (fz_len (by have := hlo.out; omega)).symm i _, hb.setCell (Nat.le_refl _) _⟩
                    case measure => simp [intOf]; omega
              · -- c: the digit, 0: the carry
                first
                  | (exfalso; omega)
                  | have hC2 := Lib.hid (hC.out.step (d := c) (c' := 0) ex ey rfl (by omega) (by omega) (by omega))
                    clear ex ey HA HA2
                    clear hi
                    go_wp2
                    go_roundw
                    case rel => exact ⟨i + 1, O ++ [c], 0, by omega, by go_num, by go_num, hC2, by rw [← fz_set hlo.out (by omega)]; exact ho.setG (fz_len (by have := hlo.out; omega)).symm i _, hb.setCell (Nat.le_refl _) _⟩
                    case measure => simp [intOf]; omega
        · obtain rfl : i = la.length + 1 := by omega
          obtain ⟨_, hvo⟩ := hC.out.done hda hdb (.inl rfl) (by omega) (by omega) HV.out
          have hdo := hC.out.dg
          rw [fz_full hlo.out] at ho
          have HE := Lib.hid (And.intro hdo hvo)
          clear hvo hdo
          go_wp2
          go_ret
          exact ⟨_, O, rfl, ho.le (by rw [HB.out]; exact Nat.le_refl _), HE.out.1, HE.out.2, by have := hlo.out; omega, HB.out ▸ hb⟩
    · -- -1: the sign, la.length: the length, -: the sign's text
      go_enter Tryz.func119, Tryz.ntmps119
      go_wp2
      go_loopw [8, 20] (fun cv iv wr => ∃ (i : Nat) (O : List Int) (c : Int), i ≤ la.length + 1 ∧ cv = .int .i64 c ∧ iv = .int .i64 i ∧ Hid (Cb la lb (-1) i O c) ∧ OwnsI wr B (.slice (some ⟨B, 0, none⟩) (la.length + 1) (la.length + 1)) (fz O (la.length + 1)) ∧ Below B w wr) (fun _ iv _ => la.length + 1 - (intOf iv).toNat)
      case atStart => exact ⟨0, [], 0, by omega, rfl, rfl, Lib.hid (Cb.zero _ _ _), ho0, hb0⟩
      case round =>
        clear ho0 hb0
        obtain ⟨i, O, c, hi, rfl, rfl, hC, ho, hb⟩ := hrel
        have hlo := Lib.hid hC.out.len
        by_cases hlt : i < la.length + 1
        · have hxa := hda.adi i
          have hyb := hdb.adi i
          have hclo := hC.out.lo
          have hchi := hC.out.hi
          have s1 := ho.cell (i := i) (by rw [fz_len (by have := hlo.out; omega)]; exact hlt)
          have f1 := ho.frozen i
          by_cases hia : i < la.length
          · obtain ⟨ga, oa, rfl, q1, hga⟩ := HA.out i hia
            have d1 := (hb.cell (p := ⟨ga, oa + i, none⟩) (HB.out ▸ hga)).trans q1
            generalize ex : la[i]?.getD 0 = x at d1 hxa
            clear q1
            -- c + x + -y: the number with b, c + x: the one without
            by_cases hib : i < lb.length
            · obtain ⟨gb, ob, rfl, q2, hgb⟩ := HA2.out i hib
              have d2 := (hb.cell (p := ⟨gb, ob + i, none⟩) (HB.out ▸ hgb)).trans q2
              generalize ey : lb[i]?.getD 0 = y at d2 hyb
              clear q2
              rcases (by omega : c + x + -y < 0 ∨ 10000 ≤ c + x + -y ∨ (0 ≤ c + x + -y ∧ c + x + -y ≤ 9999)) with hn | hn | hn
              · -- c + x + -y + 10000: the digit, -1: the carry
                first
                  | (exfalso; omega)
                  | have hC2 := Lib.hid (hC.out.step (d := c + x + -y + 10000) (c' := -1) ex ey rfl (by omega) (by omega) (by omega))
                    clear ex ey HA HA2
                    clear hi
                    go_wp2
                    go_roundw
                    case rel => exact ⟨i + 1, O ++ [c + x + -y + 10000], -1, by omega, by go_num, by go_num, hC2, by rw [← fz_set hlo.out (by omega)]; exact ho.setG (fz_len (by have := hlo.out; omega)).symm i _, hb.setCell (Nat.le_refl _) _⟩
                    case measure => simp [intOf]; omega
              · -- c + x + -y - 10000: the digit, 1: the carry
                first
                  | (exfalso; omega)
                  | have hC2 := Lib.hid (hC.out.step (d := c + x + -y - 10000) (c' := 1) ex ey rfl (by omega) (by omega) (by omega))
                    clear ex ey HA HA2
                    clear hi
                    go_wp2
                    go_roundw
                    case rel => exact ⟨i + 1, O ++ [c + x + -y - 10000], 1, by omega, by go_num, by go_num, hC2, by rw [← fz_set hlo.out (by omega)]; exact ho.setG (fz_len (by have := hlo.out; omega)).symm i _, hb.setCell (Nat.le_refl _) _⟩
                    case measure => simp [intOf]; omega
              · -- c + x + -y: the digit, 0: the carry
                first
                  | (exfalso; omega)
                  | have hC2 := Lib.hid (hC.out.step (d := c + x + -y) (c' := 0) ex ey rfl (by omega) (by omega) (by omega))
                    clear ex ey HA HA2
                    clear hi
                    go_wp2
                    go_roundw
                    case rel => exact ⟨i + 1, O ++ [c + x + -y], 0, by omega, by go_num, by go_num, hC2, by rw [← fz_set hlo.out (by omega)]; exact ho.setG (fz_len (by have := hlo.out; omega)).symm i _, hb.setCell (Nat.le_refl _) _⟩
                    case measure => simp [intOf]; omega
            · have ey : lb[i]?.getD 0 = 0 := by simp [hib]
              clear hyb
              rcases (by omega : c + x < 0 ∨ 10000 ≤ c + x ∨ (0 ≤ c + x ∧ c + x ≤ 9999)) with hn | hn | hn
              · -- c + x + 10000: the digit, -1: the carry
                first
                  | (exfalso; omega)
                  | have hC2 := Lib.hid (hC.out.step (d := c + x + 10000) (c' := -1) ex ey rfl (by omega) (by omega) (by omega))
                    clear ex ey HA HA2
                    clear hi
                    go_wp2
                    go_roundw
                    case rel => exact ⟨i + 1, O ++ [c + x + 10000], -1, by omega, by go_num, by go_num, hC2, by rw [← fz_set hlo.out (by omega)]; exact ho.setG (fz_len (by have := hlo.out; omega)).symm i _, hb.setCell (Nat.le_refl _) _⟩
                    case measure => simp [intOf]; omega
              · -- c + x - 10000: the digit, 1: the carry
                first
                  | (exfalso; omega)
                  | have hC2 := Lib.hid (hC.out.step (d := c + x - 10000) (c' := 1) ex ey rfl (by omega) (by omega) (by omega))
                    clear ex ey HA HA2
                    clear hi
                    go_wp2
                    go_roundw
                    case rel => exact ⟨i + 1, O ++ [c + x - 10000], 1, by omega, by go_num, by go_num, hC2, by rw [← fz_set hlo.out (by omega)]; exact ho.setG (fz_len (by have := hlo.out; omega)).symm i _, hb.setCell (Nat.le_refl _) _⟩
                    case measure => simp [intOf]; omega
              · -- c + x: the digit, 0: the carry
                first
                  | (exfalso; omega)
                  | have hC2 := Lib.hid (hC.out.step (d := c + x) (c' := 0) ex ey rfl (by omega) (by omega) (by omega))
                    clear ex ey HA HA2
                    clear hi
                    go_wp2
                    go_roundw
                    case rel => exact ⟨i + 1, O ++ [c + x], 0, by omega, by go_num, by go_num, hC2, by rw [← fz_set hlo.out (by omega)]; exact ho.setG (fz_len (by have := hlo.out; omega)).symm i _, hb.setCell (Nat.le_refl _) _⟩
                    case measure => simp [intOf]; omega
          · have ex : la[i]?.getD 0 = 0 := by simp [hia]
            clear hxa
            -- c + -y: the number with b, c: the one without
            by_cases hib : i < lb.length
            · obtain ⟨gb, ob, rfl, q2, hgb⟩ := HA2.out i hib
              have d2 := (hb.cell (p := ⟨gb, ob + i, none⟩) (HB.out ▸ hgb)).trans q2
              generalize ey : lb[i]?.getD 0 = y at d2 hyb
              clear q2
              rcases (by omega : c + -y < 0 ∨ 10000 ≤ c + -y ∨ (0 ≤ c + -y ∧ c + -y ≤ 9999)) with hn | hn | hn
              · -- c + -y + 10000: the digit, -1: the carry
                first
                  | (exfalso; omega)
                  | have hC2 := Lib.hid (hC.out.step (d := c + -y + 10000) (c' := -1) ex ey rfl (by omega) (by omega) (by omega))
                    clear ex ey HA HA2
                    clear hi
                    go_wp2
                    go_roundw
                    case rel => exact ⟨i + 1, O ++ [c + -y + 10000], -1, by omega, by go_num, by go_num, hC2, by rw [← fz_set hlo.out (by omega)]; exact ho.setG (fz_len (by have := hlo.out; omega)).symm i _, hb.setCell (Nat.le_refl _) _⟩
                    case measure => simp [intOf]; omega
              · -- c + -y - 10000: the digit, 1: the carry
                first
                  | (exfalso; omega)
                  | have hC2 := Lib.hid (hC.out.step (d := c + -y - 10000) (c' := 1) ex ey rfl (by omega) (by omega) (by omega))
                    clear ex ey HA HA2
                    clear hi
                    go_wp2
                    go_roundw
                    case rel => exact ⟨i + 1, O ++ [c + -y - 10000], 1, by omega, by go_num, by go_num, hC2, by rw [← fz_set hlo.out (by omega)]; exact ho.setG (fz_len (by have := hlo.out; omega)).symm i _, hb.setCell (Nat.le_refl _) _⟩
                    case measure => simp [intOf]; omega
              · -- c + -y: the digit, 0: the carry
                first
                  | (exfalso; omega)
                  | have hC2 := Lib.hid (hC.out.step (d := c + -y) (c' := 0) ex ey rfl (by omega) (by omega) (by omega))
                    clear ex ey HA HA2
                    clear hi
                    go_wp2
                    go_roundw
                    case rel => exact ⟨i + 1, O ++ [c + -y], 0, by omega, by go_num, by go_num, hC2, by rw [← fz_set hlo.out (by omega)]; exact ho.setG (fz_len (by have := hlo.out; omega)).symm i _, hb.setCell (Nat.le_refl _) _⟩
                    case measure => simp [intOf]; omega
            · have ey : lb[i]?.getD 0 = 0 := by simp [hib]
              clear hyb
              rcases (by omega : c < 0 ∨ 10000 ≤ c ∨ (0 ≤ c ∧ c ≤ 9999)) with hn | hn | hn
              · -- c + 10000: the digit, -1: the carry
                first
                  | (exfalso; omega)
                  | have hC2 := Lib.hid (hC.out.step (d := c + 10000) (c' := -1) ex ey rfl (by omega) (by omega) (by omega))
                    clear ex ey HA HA2
                    clear hi
                    go_wp2
                    go_roundw
                    case rel => exact ⟨i + 1, O ++ [c + 10000], -1, by omega, by go_num, by go_num, hC2, by rw [← fz_set hlo.out (by omega)]; exact ho.setG (fz_len (by have := hlo.out; omega)).symm i _, hb.setCell (Nat.le_refl _) _⟩
                    case measure => simp [intOf]; omega
              · -- c - 10000: the digit, 1: the carry
                first
                  | (exfalso; omega)
                  | have hC2 := Lib.hid (hC.out.step (d := c - 10000) (c' := 1) ex ey rfl (by omega) (by omega) (by omega))
                    clear ex ey HA HA2
                    clear hi
                    go_wp2
                    go_roundw
                    case rel => exact ⟨i + 1, O ++ [c - 10000], 1, by omega, by go_num, by go_num, hC2, by rw [← fz_set hlo.out (by omega)]; exact ho.setG (fz_len (by have := hlo.out; omega)).symm i _, hb.setCell (Nat.le_refl _) _⟩
                    case measure => simp [intOf]; omega
              · -- c: the digit, 0: the carry
                first
                  | (exfalso; omega)
                  | have hC2 := Lib.hid (hC.out.step (d := c) (c' := 0) ex ey rfl (by omega) (by omega) (by omega))
                    clear ex ey HA HA2
                    clear hi
                    go_wp2
                    go_roundw
                    case rel => exact ⟨i + 1, O ++ [c], 0, by omega, by go_num, by go_num, hC2, by rw [← fz_set hlo.out (by omega)]; exact ho.setG (fz_len (by have := hlo.out; omega)).symm i _, hb.setCell (Nat.le_refl _) _⟩
                    case measure => simp [intOf]; omega
        · obtain rfl : i = la.length + 1 := by omega
          obtain ⟨_, hvo⟩ := hC.out.done hda hdb (.inr rfl) (by omega) (by omega) HV.out
          have hdo := hC.out.dg
          rw [fz_full hlo.out] at ho
          have HE := Lib.hid (And.intro hdo hvo)
          clear hvo hdo
          go_wp2
          go_ret
          exact ⟨_, O, rfl, ho.le (by rw [HB.out]; exact Nat.le_refl _), HE.out.1, HE.out.2, by have := hlo.out; omega, HB.out ▸ hb⟩
end Go.Proofs.YtgjdgcmmlfmhmaaGreatDoor
