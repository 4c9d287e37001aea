/- Walks: texts drawn for the law of forms of logs (of, spoilt, DrawParseLog). -/
import Derived.Test.YtpnpidepkfnofaaGreatDoorDrM
import Derived.Test.YtpnpidepkfnofaaGreatDoorPrs
import Derived.Laws.Concat
import Derived.Laws.IdiomStrings
import Derived.StillTactics
namespace Go.Proofs.YtpnpidepkfnofaaGreatDoor
open Go.RowKit

theorem convU (b : UInt8) : ∀ (w1 : World) (r : Nat), w1.cell? ⟨r, 0, none⟩ = some (.int .u8 (b.toNat : Int)) → (convert 22 9 (.slice (some ⟨r, 0, none⟩) 1 1)).run Tryz.prog w1 = .ok (.string ⟨#[b]⟩) w1 := by
  intro w1 r hc
  exact run_convert_bytes_back (P := Tryz.prog) w1 22 9 5 ⟨r, 0, none⟩ 1 [b] (by kernel_rfl) (by kernel_rfl) (by kernel_rfl) (fun j hj => by
    have : j = 0 := by simpa using hj
    subst this
    exact hc)
section
variable {B k n : Nat} {v : Value} {xs : List Int} {w0 w : World} {bl : List (Nat × Array Value × TypeId)}
/-- a text, drawn: no longer than m -/
def TextD (B k : Nat) (v : Value) (xs : List Int) (n : Nat) (w0 : World) (bl : List (Nat × Array Value × TypeId)) (m : Nat) (e : Ending) (w' : World) : Prop :=
  ∃ s : ByteArray, e = .returned (.string s) ∧ s.size ≤ m ∧ Dr B k v xs n w0 bl w'
theorem d_of (d : Dr B k v xs n w0 bl w) (hn : n ≤ 900000) (L : List ByteArray) (hL : 1 ≤ L.length ∧ L.length ≤ 200) (m : Nat) (hm : ∀ s ∈ L, s.size ≤ m) (g : Nat) (hg : g ≠ k) (hk : Blk g (L.map Value.string).toArray 9 w) :
    Calls Tryz.prog 57 #[.pointer (some ⟨k, 0, none⟩), .slice (some ⟨g, 0, none⟩) L.length L.length] w (TextD B k v xs (n + 2) w0 bl m) := by
  have HN := Lib.hid (c_pick B k v xs n hn L.length ⟨by omega, by omega⟩ w d.cur)
  have h1 := hL.1
  have h2 := hL.2
  clear hL
  go_enter Tryz.func57, Tryz.ntmps57
  go_wp2_with fail
  refine HN.out.mono ?_
  rintro e w2 ⟨x, rfl, x0, x1, hc2, o2⟩
  obtain ⟨i, rfl⟩ := Int.eq_ofNat_of_zero_le x0
  have hi : i < L.length := by split at x1 <;> omega
  have hi1 : (i : Int) < (L.length : Int) := by omega
  have k2 := hk.over o2 (by simpa using hg)
  have hcell : w2.cell? ⟨g, i, none⟩ = some (.string L[i]) := by
    rw [k2.cell i]; simp [hi]
  have hmi := hm _ (List.getElem_mem hi)
  generalize L[i] = y at hcell hmi
  clear x1
  go_wp2
  go_ret
  exact ⟨y, rfl, hmi, d.go hc2 o2⟩
theorem ext_size (t : ByteArray) (a b : Nat) (h : b ≤ t.size) : (t.extract a b).size = b - a := by
  rw [ByteArray.size_extract]; omega
set_option maxHeartbeats 4000000 in
set_option maxRecDepth 100000 in
theorem d_spoilt (d : Dr B k v xs n w0 bl w) (hn : n ≤ 800000) (t0 x : ByteArray) (ht : t0.size ≤ 800000) (hx : 2 ≤ x.size ∧ x.size ≤ 200) :
    Calls Tryz.prog 58 #[.pointer (some ⟨k, 0, none⟩), .string t0, .string x] w (TextD B k v xs (n + 100) w0 bl (t0.size + 2)) := by
  go_enter Tryz.func58, Tryz.ntmps58
  go_wp2_with fail
  refine (d_pick d (by omega) 2 (by omega)).mono ?_
  rintro e w1 ⟨n0, rfl, hn0, d1⟩
  simp only [show ¬ ((2 : Int) ≤ 1) by omega, if_false] at hn0
  go_wp2
  go_loopw [1, 7] (fun s q wr => ∃ (t : ByteArray) (m : Nat), s = .string t ∧ q = .int .i64 m ∧ m ≤ 2 ∧ t.size + m ≤ t0.size + 2 ∧ Dr B k v xs (n + 40 - 10 * m) w0 bl wr) (fun _ q _ => (intOf q).toNat)
  case atStart => exact ⟨t0, (1 + n0).toNat, rfl, by rw [Int.toNat_of_nonneg (by omega)], by omega, by omega, d1.le (by omega)⟩
  case round =>
    clear d1
    obtain ⟨t, m, rfl, rfl, hm, hsz, dr⟩ := hrel
    by_cases hm0 : (0 : Int) < (m : Int)
    · by_cases ht0 : (0 : Int) < (t.size : Int)
      · go_wp2_with fail
        refine (d_pick dr (by omega) t.size (by omega)).mono ?_
        rintro e w2 ⟨i, rfl, hi, d2⟩
        obtain ⟨i, rfl⟩ := Int.eq_ofNat_of_zero_le hi.1
        have hit : i < t.size := by have := hi.2; split at this <;> omega
        clear hi
        go_wp2_with fail
        refine (d_pick d2 (by omega) x.size (by omega)).mono ?_
        rintro e w3 ⟨j, rfl, hj, d3⟩
        obtain ⟨j, rfl⟩ := Int.eq_ofNat_of_zero_le hj.1
        have hjx : j < x.size := by have := hj.2; split at this <;> omega
        clear hj
        have hcv := convU x[j]
        have d4 := (d3.alloc #[.int .u8 (x[j].toNat : Int)] 5).tail
        go_wp2_with fail
        generalize w3.alloc _ = W4 at d4 ⊢
        generalize x[j] = y at *
        clear hcv d3 d2 dr
        have e1 : (⟨#[y]⟩ : ByteArray).size = 1 := rfl
        have e2 := ext_size t 0 i (by omega)
        have e3 := ext_size t i t.size (by omega)
        have e4 := ext_size t (i + 1) t.size (by omega)
        have f1 : (t.extract 0 i ++ ⟨#[y]⟩ : ByteArray).size = i + 1 := by rw [ByteArray.size_append, e2]; omega
        have f2 : (t.extract 0 i ++ ⟨#[y]⟩ ++ t.extract i t.size : ByteArray).size = t.size + 1 := by rw [ByteArray.size_append, f1, e3]; omega
        have f3 : (t.extract 0 i ++ ⟨#[y]⟩ ++ t.extract (i + 1) t.size : ByteArray).size = t.size := by rw [ByteArray.size_append, f1, e4]; omega
        have f4 : (t.extract 0 i ++ t.extract (i + 1) t.size : ByteArray).size = t.size - 1 := by rw [ByteArray.size_append, e2, e4]; omega
        have HA := fun w => run_string_add_sum (P := Tryz.prog) w (t.extract 0 i) ⟨#[y]⟩ (by omega)
        have HB := fun w => run_string_add_sum (P := Tryz.prog) w (t.extract 0 i ++ ⟨#[y]⟩) (t.extract i t.size) (by omega)
        have HC := fun w => run_string_add_sum (P := Tryz.prog) w (t.extract 0 i ++ ⟨#[y]⟩) (t.extract (i + 1) t.size) (by omega)
        have HD := fun w => run_string_add_sum (P := Tryz.prog) w (t.extract 0 i) (t.extract (i + 1) t.size) (by omega)
        have i5 : ((i : Int) + 1).toNat = i + 1 := by omega
        have i6 : IntKind.i64.wrap ((i : Int) + 1) = (i : Int) + 1 := by
          rw [Go.IntWalk.i64_left]; unfold wrap64; omega
        have i7 : (i : Int) + 1 ≤ (t.size : Int) := by omega
        have i8 : (0 : Int) ≤ (i : Int) + 1 := by omega
        refine (d_pick d4 (by omega) 3 (by omega)).mono ?_
        rintro e w5 ⟨z, rfl, hz, d5⟩
        clear d4
        by_cases z0 : z = 0
        · subst z0
          go_wp2
          go_region
          all_goals go_wp2
          all_goals
            go_roundw
            case rel => exact ⟨_, m - 1, rfl, by go_num, by omega, by rw [f2]; omega, (d5.below ((Below.refl _ _).drew)).le (show n + 40 - 10 * m + 2 + 2 + 2 ≤ n + 40 - 10 * (m - 1) by omega)⟩
            case measure => simp [intOf]; omega
        · by_cases z1 : z = 1
          · subst z1
            go_wp2
            go_region
            all_goals go_wp2
            all_goals
              go_roundw
              case rel => exact ⟨_, m - 1, rfl, by go_num, by omega, by rw [f3]; omega, (d5.below ((Below.refl _ _).drew)).le (show n + 40 - 10 * m + 2 + 2 + 2 ≤ n + 40 - 10 * (m - 1) by omega)⟩
              case measure => simp [intOf]; omega
          · go_wp2
            go_region
            all_goals go_wp2
            all_goals
              go_roundw
              case rel => exact ⟨_, m - 1, rfl, by go_num, by omega, by rw [f4]; omega, (d5.below ((Below.refl _ _).drew)).le (show n + 40 - 10 * m + 2 + 2 + 2 ≤ n + 40 - 10 * (m - 1) by omega)⟩
              case measure => simp [intOf]; omega
      · go_wp2
        refine bodyPost_ret (v := .string t) (by simp [results, Tryz.results58, go_sem]) rfl ?_
        exact ⟨_, rfl, by omega, dr.le (by omega)⟩
    · go_wp2
      refine bodyPost_ret (v := .string t) (by simp [results, Tryz.results58, go_sem]) rfl ?_
      exact ⟨_, rfl, by omega, dr.le (by omega)⟩
/-- a text, drawn by a function -/
def TextOut (w : World) (e : Ending) (w' : World) : Prop := ∃ s : ByteArray, e = .returned (.string s) ∧ s.size ≤ 1000 ∧ Below w.heap.size w w'
def of5 : List ByteArray := [⟨#[]⟩, ⟨#[117, 112, 32, 49, 10]⟩, ⟨#[116, 119, 105, 115, 116, 32, 52, 10]⟩, ⟨#[100, 111, 119, 110, 32, 50]⟩, ⟨#[117, 112, 32, 48, 50, 10]⟩]
theorem of5_size : ∀ s ∈ of5, s.size ≤ 1000 := by
  intro s hs
  simp only [of5, List.mem_cons, List.not_mem_nil, or_false] at hs
  rcases hs with rfl | rfl | rfl | rfl | rfl <;> decide
set_option maxHeartbeats 4000000 in
set_option maxRecDepth 100000 in
theorem d_drawParse (v : Value) (xs : List Int) (w : World) (ht : TabI w) (h : RdB w w.heap.size v xs) : Calls Tryz.prog 22 #[v] w (TextOut w) := by
  have d1 := Dr.make0 h
  obtain ⟨a0, cap, rfl, _⟩ := h
  have HT := Lib.hid ht
  clear ht
  go_enter Tryz.func22, Tryz.ntmps22
  go_wp2_with fail
  generalize w.alloc _ = W0 at d1 ⊢
  refine (d_twistable d1 (by omega)).mono ?_
  rintro e w2 ⟨a, b, rfl, hab, d2⟩
  go_wp2_with fail
  refine (d_changes d2 (by omega) a b).mono ?_
  rintro e w3 ⟨u, L, rl, rfl, hL, hlog, d3⟩
  clear d1 d2
  have own3 := d3.owns hlog
  obtain ⟨sa, cap2, rfl, _⟩ := OwnsP.form own3
  have HC := Lib.hid (c_tlLog _ _ L (by omega) w3 own3)
  cases hb : logB L
  · rw [hb] at HC
    go_wp2_with fail
    refine HC.out.mono ?_
    rintro e w4 ⟨rfl, hb4⟩
    have d4 := d3.below hb4
    clear d3 HC own3
    have dk := (d4.alloc (of5.map Value.string).toArray 9)
    go_wp2_with fail
    have hk := dk.head
    have hne := (dk.far _ (List.mem_cons_self ..)).1
    refine (d_of dk.tail (by omega) of5 (by decide) 1000 of5_size w4.heap.size hne hk).mono ?_
    rintro e w5 ⟨s, rfl, hs, d5⟩
    clear dk hk hne d4
    go_wp2
    refine bodyPost_ret (v := .string s) (by simp [results, Tryz.results22, go_sem]) rfl ?_
    exact ⟨_, rfl, hs, d5.out⟩
  · rw [hb] at HC
    have hlb := logB_of hb
    have hts := txtL_size hb
    have HX : ∀ w4, Below w3.heap.size w3 w4 → Calls Tryz.prog 31 #[.slice sa L.length cap2] w4 fun e w' => e = .returned (.string (txtL L)) ∧ Below w4.heap.size w4 w' := fun w4 hb4 => c_tlText _ _ L (by omega) (fun k hk => stepB_bd (hlb.2 k hk)) _ _ _ _ (by decide) (Lib.hid c_tlNames) (Lib.hid (fun y w hy _ => c_l1Int y (by omega) w)) w4 ((HT.out.below d3.out).below hb4) (OwnsP.below own3 hb4)
    replace HX := Lib.hid HX
    generalize txtL L = t at HX hts
    go_wp2_with fail
    refine HC.out.mono ?_
    rintro e w4 ⟨rfl, hb4⟩
    have d4 := d3.below hb4
    go_wp2_with fail
    refine (HX.out _ hb4).mono ?_
    rintro e w5 ⟨rfl, hb5⟩
    have d5 := d4.below hb5
    clear d3 HC own3 HX d4
    go_wp2_with fail
    refine (d_one d5 (by omega) 3 (by omega)).mono ?_
    rintro e w6 ⟨q, rfl, d6⟩
    cases q
    · go_wp2
      refine bodyPost_ret (v := .string t) (by simp [results, Tryz.results22, go_sem]) rfl ?_
      exact ⟨_, rfl, by omega, d6.out⟩
    · go_wp2_with fail
      refine (d_spoilt d6 (by omega) t _ (by omega) (by decide)).mono ?_
      rintro e w7 ⟨s, rfl, hs, d7⟩
      go_wp2
      refine bodyPost_ret (v := .string s) (by simp [results, Tryz.results22, go_sem]) rfl ?_
      exact ⟨_, rfl, by omega, d7.out⟩
end
end Go.Proofs.YtpnpidepkfnofaaGreatDoor
