/- Walks: the curves drawn for the laws of the tables. -/
import Derived.Test.YtilgeeaobdebhaaDrawT
import Derived.Test.YtilgeeaobdebhaaTab
import Derived.Test.YtilgeeaobdebhaaTbl
import Derived.Deep.Cut
namespace Go.Proofs.Ytilgeeaobdebhaa
open Go.RowKit

theorem set_over {k S : Nat} {w w1 : World} {x y : Value} (h : Over [k] w w1) (hS : w.heap.size ≤ S) : Over [k] w ((w1.setCell ⟨S, 0, none⟩ x).setCell ⟨S, 1, none⟩ y) :=
  (h.setCell (.inl hS) x).setCell (.inl hS) y
theorem RdB.set {w : World} {B S : Nat} {v x : Value} {xs : List Int} {o : Nat} (h : RdB w B v xs) (hS : B ≤ S) : RdB (w.setCell ⟨S, o, none⟩ x) B v xs := by
  obtain ⟨a, cap, hv, hm, hc⟩ := h
  refine ⟨a, cap, hv, hm, fun i hi => ?_⟩
  obtain ⟨g, o', ha, h1, h2, h3, h4⟩ := hc i hi
  refine ⟨g, o', ha, ?_, h2, h3, h4⟩
  exact (World.cell?_of_block (w := w) (Below.heap_setCell _ _ _ _ (by show g ≠ S; omega))).trans h1
theorem Cur.set2 {B k S n : Nat} {v x y : Value} {xs : List Int} {w : World} (h : Cur B k v xs n w) (hk : S ≠ k) (hS : B ≤ S) : Cur B k v xs n ((w.setCell ⟨S, 0, none⟩ x).setCell ⟨S, 1, none⟩ y) := by
  obtain ⟨h1, h2, h3, a, s, h4, h5, h6, h7⟩ := h
  refine ⟨h1, by simpa [World.setCell] using h2, (h3.set hS).set hS, a, s, h4, h5, h6, (h7.far (by simpa using fun e => hk e.symm) _).far (by simpa using fun e => hk e.symm) _⟩
def CvPost (B k : Nat) (v : Value) (xs : List Int) (n : Nat) (w : World) (e : Ending) (w' : World) : Prop :=
  ∃ a b : Int, e = .returned (.agg #[.int .i64 a, .int .i64 b]) ∧ (-2 ≤ a ∧ a ≤ 37) ∧ (-2 ≤ b ∧ b ≤ 37) ∧ Cur B k v xs n w' ∧ Over [k] w w'
set_option maxHeartbeats 1000000 in
theorem c_tableCurve (B k : Nat) (v : Value) (xs : List Int) (n : Nat) (hn : n ≤ 800000) (p : Int) (hp : 0 ≤ p ∧ p ≤ 37) (w : World) (hc : Cur B k v xs n w) :
    Calls Try.prog 55 #[.pointer (some ⟨k, 0, none⟩), .int .i64 p] w (CvPost B k v xs (n + 12) w) := by
  have hk := hc.2.1
  have hBk := hc.1
  have hrk : w.heap.size ≠ k := by omega
  have c1 := hc.below (w1 := w.alloc (.cells #[.int .i64 0, .int .i64 0] 38)) ((Below.refl _ _).alloc (Nat.le_refl _) _)
  have b1 := Blk.new w #[.int .i64 0, .int .i64 0] 38
  have o1 : Over [k] w (w.alloc (.cells #[.int .i64 0, .int .i64 0] 38)) := over_alloc w _
  have HT := Lib.hid (fun (w : World) => c_ctPrime p w)
  have HP : Hid (∀ (m : Nat) (q : Int) (W : World), m ≤ 900000 → 0 ≤ q ∧ q ≤ 1000000 → Cur B k v xs m W → Calls Try.prog 70 #[.pointer (some ⟨k, 0, none⟩), .int .i64 q] W (NumPost B k v xs (m + 2) 0 (if q ≤ 1 then 0 else q - 1) W)) := fun m q W hm hq hW => c_pick B k v xs m hm q hq W hW
  cases hb : tabP p
  case false =>
    rw [hb] at HT
    go_enter Try.func55, Try.ntmps55
    go_upto_region 1 with (fail)
    generalize w.alloc _ = W at b1 c1 o1 ⊢
    have hS : w.heap.size ≤ w.heap.size := Nat.le_refl _
    have hSB : B ≤ w.heap.size := by omega
    generalize hSe : w.heap.size = S at b1 hrk hSB ⊢
    replace hS : w.heap.size ≤ S := by omega
    clear hSe
    go_wp2_with fail
    refine (HT.out _).mono ?_
    rintro e w' ⟨rfl, rfl⟩
    go_wp2_with fail
    refine (HP.out n 40 _ (by omega) (by omega) c1).mono ?_
    rintro e w2 ⟨x, rfl, x0, x1, hc2, o2⟩
    go_wp2_with fail
    refine (HP.out (n + 2) 40 _ (by omega) (by omega) hc2).mono ?_
    rintro e w3 ⟨y, rfl, y0, y1, hc3, o3⟩
    have b3 := (b1.over o2 (by simpa using hrk)).over o3 (by simpa using hrk)
    simp only [show ¬ ((40 : Int) ≤ 1) by omega, if_false] at x1 y1
    have g0 : w3.cell? ⟨S, 0, none⟩ = some (.int .i64 0) := b3.cell 0
    have g1 : w3.cell? ⟨S, 1, none⟩ = some (.int .i64 0) := b3.cell 1
    have z0 := b3.frozen 0
    have z1 := b3.frozen 1
    go_wp2
    have b4 := (b3.set 0 (.int .i64 (x - 2))).set 1 (.int .i64 (y - 2))
    have o4 : Over [k] w ((w3.setCell ⟨S, 0, none⟩ (.int .i64 (x - 2))).setCell ⟨S, 1, none⟩ (.int .i64 (y - 2))) := set_over ((o1.trans o2).trans o3) hS
    have c4 : Cur B k v xs (n + 12) ((w3.setCell ⟨S, 0, none⟩ (.int .i64 (x - 2))).setCell ⟨S, 1, none⟩ (.int .i64 (y - 2))) := (hc3.set2 hrk hSB).le (by omega)
    generalize (w3.setCell _ _).setCell _ _ = w9 at b4 o4 c4 ⊢
    have q0 : w9.cell? ⟨S, 0, none⟩ = some (.int .i64 (x - 2)) := b4.cell 0
    have q1 : w9.cell? ⟨S, 1, none⟩ = some (.int .i64 (y - 2)) := b4.cell 1
    refine bodyPost_ret (v := .agg #[.int .i64 (x - 2), .int .i64 (y - 2)]) (by simp [results, Try.results55, go_sem, q0, q1]) rfl ?_
    exact ⟨_, _, rfl, by omega, by omega, c4, o4⟩
  case true =>
    rw [hb] at HT
    have HA := Lib.hid (fun (w : World) => c_ctAll p hb w)
    have HN := Lib.hid (fun (c : Int × Int) (h : c ∈ tabL p) => tabL_mem h)
    have HL := Lib.hid (tabL_len (p := p) (tabP_of hb).2.1)
    have HL0 : Hid (1 < (tabL p).length) := by
      obtain ⟨q, m, rfl, hq, _, _, hl⟩ := tab_cases hb
      have : 5 * 4 ≤ q * (q - 1) := Nat.mul_le_mul hq (by omega)
      rw [← hl] at this
      exact Lib.hid (Nat.lt_of_lt_of_le (by decide) this)
    clear hb
    have hx : ∀ (r : Nat) (x : Value), r = r := fun _ _ => rfl
    clear hx
    go_enter Try.func55, Try.ntmps55
    go_upto_region 1 with (fail)
    generalize w.alloc _ = W at b1 c1 o1 ⊢
    have hS : w.heap.size ≤ w.heap.size := Nat.le_refl _
    have hSB : B ≤ w.heap.size := by omega
    generalize hSe : w.heap.size = S at b1 hrk hSB ⊢
    replace hS : w.heap.size ≤ S := by omega
    clear hSe
    go_wp2_with fail
    refine (HT.out _).mono ?_
    rintro e w' ⟨rfl, rfl⟩
    go_wp2_with fail
    refine (c_one B k v xs n (by omega) 16 (by omega) _ c1).mono ?_
    rintro e w2 ⟨bb, rfl, hc2, o2⟩
    have b2 := b1.over o2 (by simpa using hrk)
    cases bb
    case true =>
      go_wp2_with fail
      refine (HP.out (n + 2) 40 _ (by omega) (by omega) hc2).mono ?_
      rintro e w3 ⟨x, rfl, x0, x1, hc3, o3⟩
      go_wp2_with fail
      refine (HP.out (n + 4) 40 _ (by omega) (by omega) hc3).mono ?_
      rintro e w4 ⟨y, rfl, y0, y1, hc4, o4⟩
      have b4 := (b2.over o3 (by simpa using hrk)).over o4 (by simpa using hrk)
      simp only [show ¬ ((40 : Int) ≤ 1) by omega, if_false] at x1 y1
      have g0 : w4.cell? ⟨S, 0, none⟩ = some (.int .i64 0) := b4.cell 0
      have g1 : w4.cell? ⟨S, 1, none⟩ = some (.int .i64 0) := b4.cell 1
      have z0 := b4.frozen 0
      have z1 := b4.frozen 1
      have oo := ((o1.trans o2).trans o3).trans o4
      clear o4
      go_wp2
      have b5 := (b4.set 0 (.int .i64 (x - 2))).set 1 (.int .i64 (y - 2))
      have o4 : Over [k] w ((w4.setCell ⟨S, 0, none⟩ (.int .i64 (x - 2))).setCell ⟨S, 1, none⟩ (.int .i64 (y - 2))) := set_over oo hS
      have c4 : Cur B k v xs (n + 12) ((w4.setCell ⟨S, 0, none⟩ (.int .i64 (x - 2))).setCell ⟨S, 1, none⟩ (.int .i64 (y - 2))) := (hc4.set2 hrk hSB).le (by omega)
      generalize (w4.setCell _ _).setCell _ _ = w9 at b5 o4 c4 ⊢
      have q0 : w9.cell? ⟨S, 0, none⟩ = some (.int .i64 (x - 2)) := b5.cell 0
      have q1 : w9.cell? ⟨S, 1, none⟩ = some (.int .i64 (y - 2)) := b5.cell 1
      refine bodyPost_ret (v := .agg #[.int .i64 (x - 2), .int .i64 (y - 2)]) (by simp [results, Try.results55, go_sem, q0, q1]) rfl ?_
      exact ⟨_, _, rfl, by omega, by omega, c4, o4⟩
    case false =>
      go_wp2_with fail
      refine (HA.out _).mono ?_
      rintro e w3 ⟨va, rfl, ho, hb3⟩
      have hc3 := hc2.below hb3
      have b3 := b2.next hb3
      have hk3 := hc2.2.1
      have oo := (o1.trans o2).trans (.of_below hb3)
      obtain ⟨sa, cap, rfl, hf⟩ := OwnsP.form ho
      have HF := Lib.hid hf
      clear hf ho
      go_wp2_with fail
      refine (c_one B k v xs (n + 2) (by omega) 4 (by omega) _ hc3).mono ?_
      rintro e w4 ⟨bb, rfl, hc4, o4⟩
      have b4 := b3.over o4 (by simpa using hrk)
      cases bb
      case true =>
        have hk4 := hc4.2.1
        have c5 := hc4.below (w1 := w4.alloc (.cells #[.int .i64 0, .int .i64 1] 3)) ((Below.refl _ _).alloc (Nat.le_refl _) _)
        go_wp2_with fail
        refine (c_among B k v xs (n + 4) (by omega) [0, 1] (by simp) w4.heap.size (by omega) _ c5 (Blk.new w4 _ _)).mono ?_
        rintro e w5 ⟨x, hx, rfl, hc5, o5⟩
        have hk5 := hc5.2.1
        have c6 := hc5.below (w1 := w5.alloc (.cells #[.int .i64 0, .int .i64 1, .int .i64 2] 3)) ((Below.refl _ _).alloc (Nat.le_refl _) _)
        go_wp2_with fail
        refine (c_among B k v xs (n + 6) (by omega) [0, 1, 2] (by simp) w5.heap.size (by omega) _ c6 (Blk.new w5 _ _)).mono ?_
        rintro e w6 ⟨y, hy, rfl, hc6, o6⟩
        have hx' : 0 ≤ x ∧ x ≤ 1 := by simp at hx; omega
        have hy' : 0 ≤ y ∧ y ≤ 2 := by simp at hy; omega
        have b6 := ((((b4.alloc (.cells #[.int .i64 0, .int .i64 1] 3)).over o5 (by simpa using hrk)).alloc (.cells #[.int .i64 0, .int .i64 1, .int .i64 2] 3)).over o6 (by simpa using hrk))
        have g0 : w6.cell? ⟨S, 0, none⟩ = some (.int .i64 0) := b6.cell 0
        have g1 : w6.cell? ⟨S, 1, none⟩ = some (.int .i64 0) := b6.cell 1
        have z0 := b6.frozen 0
        have z1 := b6.frozen 1
        have o66 := oo.trans (o4.trans (((over_alloc w4 _).trans o5).trans ((over_alloc w5 _).trans o6)))
        clear o4 hx hy
        go_wp2
        have b7 := (b6.set 0 (.int .i64 (x))).set 1 (.int .i64 (y))
        have o4 : Over [k] w ((w6.setCell ⟨S, 0, none⟩ (.int .i64 (x))).setCell ⟨S, 1, none⟩ (.int .i64 (y))) := set_over o66 hS
        have c4 : Cur B k v xs (n + 12) ((w6.setCell ⟨S, 0, none⟩ (.int .i64 (x))).setCell ⟨S, 1, none⟩ (.int .i64 (y))) := (hc6.set2 hrk hSB).le (by omega)
        generalize (w6.setCell _ _).setCell _ _ = w9 at b7 o4 c4 ⊢
        have q0 : w9.cell? ⟨S, 0, none⟩ = some (.int .i64 (x)) := b7.cell 0
        have q1 : w9.cell? ⟨S, 1, none⟩ = some (.int .i64 (y)) := b7.cell 1
        refine bodyPost_ret (v := .agg #[.int .i64 (x), .int .i64 (y)]) (by simp [results, Try.results55, go_sem, q0, q1]) rfl ?_
        exact ⟨_, _, rfl, by omega, by omega, c4, o4⟩
      case false =>
        have hl0 := HL0.out
        have hl1 := HL.out
        go_wp2_with fail
        refine (HP.out (n + 4) (tabL p).length _ (by omega) (by omega) hc4).mono ?_
        rintro e w5 ⟨x, rfl, x0, x1, hc5, o5⟩
        rw [if_neg (by omega)] at x1
        obtain ⟨i, rfl⟩ := Int.eq_ofNat_of_zero_le x0
        have hi : i < (tabL p).length := by omega
        obtain ⟨g, rfl, p1, p2, _, hg, hg2⟩ := HF.out i hi
        have o45 := o4.trans o5
        have hgk : g ≠ k := by omega
        have e1 := (o45.cell (p := ⟨g, i * 2, none⟩) hg (by simpa using hgk)).trans p1
        have e2 := (o45.cell (p := ⟨g, i * 2 + 1, none⟩) hg (by simpa using hgk)).trans p2
        obtain ⟨m1, m2, _⟩ := HN.out _ (List.getElem_mem hi)
        have b5 := b4.over o5 (by simpa using hrk)
        generalize (tabL p)[i] = c at e1 e2 m1 m2
        obtain ⟨X, Y⟩ := c
        simp only at e1 e2 m1 m2
        have g0 : w5.cell? ⟨S, 0, none⟩ = some (.int .i64 0) := b5.cell 0
        have g1 : w5.cell? ⟨S, 1, none⟩ = some (.int .i64 0) := b5.cell 1
        have z0 := b5.frozen 0
        have z1 := b5.frozen 1
        have i1 : (i : Int) < ((tabL p).length : Int) := by omega
        have ooo := oo.trans o45
        clear o4 p1 p2
        go_wp2
        have b6 := (b5.set 0 (.int .i64 (X))).set 1 (.int .i64 (Y))
        have o4 : Over [k] w ((w5.setCell ⟨S, 0, none⟩ (.int .i64 (X))).setCell ⟨S, 1, none⟩ (.int .i64 (Y))) := set_over ooo hS
        have c4 : Cur B k v xs (n + 12) ((w5.setCell ⟨S, 0, none⟩ (.int .i64 (X))).setCell ⟨S, 1, none⟩ (.int .i64 (Y))) := (hc5.set2 hrk hSB).le (by omega)
        generalize (w5.setCell _ _).setCell _ _ = w9 at b6 o4 c4 ⊢
        have q0 : w9.cell? ⟨S, 0, none⟩ = some (.int .i64 (X)) := b6.cell 0
        have q1 : w9.cell? ⟨S, 1, none⟩ = some (.int .i64 (Y)) := b6.cell 1
        refine bodyPost_ret (v := .agg #[.int .i64 (X), .int .i64 (Y)]) (by simp [results, Try.results55, go_sem, q0, q1]) rfl ?_
        exact ⟨_, _, rfl, by omega, by omega, c4, o4⟩
def CurPost (w : World) (e : Ending) (w' : World) : Prop := ∃ p a b : Int, e = .returned (.tuple #[.int .i64 p, .agg #[.int .i64 a, .int .i64 b]]) ∧ (0 ≤ p ∧ p ≤ 37) ∧ (-2 ≤ a ∧ a ≤ 37) ∧ (-2 ≤ b ∧ b ≤ 37) ∧ Below w.heap.size w w'
theorem c_drawClass (v : Value) (xs : List Int) (w : World) (h : RdB w w.heap.size v xs) : Calls Try.prog 22 #[v] w (CurPost w) := by
  have h1 := (h.below (w1 := w.alloc (.cells #[.int .i64 0, .int .i64 0] 38)) ((Below.refl _ _).alloc (Nat.le_refl _) _) (Nat.le_refl _)).mono (B' := (w.alloc (.cells #[.int .i64 0, .int .i64 0] 38)).heap.size) (by simp)
  have hc := Cur.new h1
  have b0 := (Blk.new w #[.int .i64 0, .int .i64 0] 38).alloc (.cells #[v, .int .i64 0, .int .u64 0] 52)
  have hz : w.heap.size < (w.alloc (.cells #[.int .i64 0, .int .i64 0] 38)).heap.size := by simp
  have hb0 : Below w.heap.size w (w.alloc (.cells #[.int .i64 0, .int .i64 0] 38)) := (Below.refl _ _).alloc (Nat.le_refl _) _
  obtain ⟨a, cap, rfl, _⟩ := h
  go_enter Try.func22, Try.ntmps22
  go_upto_region 1 with (fail)
  generalize w.alloc _ = V at hc b0 hz hb0 ⊢
  have hS : w.heap.size ≤ w.heap.size := Nat.le_refl _
  generalize hSe : w.heap.size = S at b0 hz ⊢
  replace hS : w.heap.size ≤ S := by omega
  have hSV : w.heap.size ≤ V.heap.size := by omega
  clear hSe
  go_wp2_with fail
  refine (c_tablePrime _ _ _ xs 0 (by omega) _ hc).mono ?_
  rintro e w2 ⟨p, rfl, p0, p1, hc2, o2⟩
  have b2 := b0.over o2 (by simp; omega)
  go_wp2_with fail
  refine (c_tableCurve _ _ _ xs 4 (by omega) p ⟨p0, p1⟩ _ hc2).mono ?_
  rintro e w3 ⟨x, y, rfl, hx, hy, hc3, o3⟩
  have b3 := b2.over o3 (by simp; omega)
  have g0 : w3.cell? ⟨S, 0, none⟩ = some (.int .i64 0) := b3.cell 0
  have g1 : w3.cell? ⟨S, 1, none⟩ = some (.int .i64 0) := b3.cell 1
  have z0 := b3.frozen 0
  have z1 := b3.frozen 1
  have hB : Below w.heap.size w w3 := (o2.trans o3).belowGe (hb0.alloc hSV _) (by simp; omega) (by simp; omega)
  go_wp2
  have b4 := (b3.set 0 (.int .i64 x)).set 1 (.int .i64 y)
  have hB4 : Below w.heap.size w ((w3.setCell ⟨S, 0, none⟩ (.int .i64 x)).setCell ⟨S, 1, none⟩ (.int .i64 y)) := (hB.setCell hS _).setCell hS _
  generalize (w3.setCell _ _).setCell _ _ = w9 at b4 hB4 ⊢
  have q0 : w9.cell? ⟨S, 0, none⟩ = some (.int .i64 x) := b4.cell 0
  have q1 : w9.cell? ⟨S, 1, none⟩ = some (.int .i64 y) := b4.cell 1
  refine bodyPost_ret (v := .tuple #[.int .i64 p, .agg #[.int .i64 x, .int .i64 y]]) (by simp [results, Try.results22, go_sem, q0, q1]) rfl ?_
  exact ⟨p, x, y, rfl, ⟨p0, p1⟩, hx, hy, hB4⟩
theorem c_l1MostT (a b : Int) (w : World) : Calls Try.prog 62 #[.int .i64 a, .int .i64 b] w fun e w' => e = .returned (.int .i64 (if b < a then a else b)) ∧ w' = w := by
  by_cases h : b < a
  · rw [if_pos h]
    go_enter Try.func62, Try.ntmps62
    go_wp2
    go_ret
    exact ⟨rfl, rfl⟩
  · rw [if_neg h]
    go_enter Try.func62, Try.ntmps62
    go_wp2
    go_ret
    exact ⟨rfl, rfl⟩
theorem c_drawInv (v : Value) (xs : List Int) (w : World) (h : RdB w w.heap.size v xs) : Calls Try.prog 29 #[v] w (TwoPost w) := by
  have hc := Cur.new h
  obtain ⟨a, cap, rfl, _⟩ := h
  go_enter Try.func29, Try.ntmps29
  go_wp2_with fail
  refine (c_tablePrime _ _ _ xs 0 (by omega) _ hc).mono ?_
  rintro e w2 ⟨p, rfl, p0, p1, hc2, o2⟩
  have hk2 := hc2.2.1
  go_wp2_with fail
  refine (c_l1MostT 1 p _).mono ?_
  rintro e w' ⟨rfl, rfl⟩
  have hm : 1 ≤ (if p < 1 then 1 else p) ∧ (if p < 1 then 1 else p) ≤ 37 := by split <;> omega
  generalize (if p < 1 then 1 else p) = m at hm ⊢
  have hr := Int.emod_nonneg 1728 (show m ≠ 0 by omega)
  have hr2 := Int.emod_lt_of_pos 1728 (show 0 < m by omega)
  have c3 := hc2.below (w1 := w'.alloc (.cells #[.int .i64 0, .int .i64 1, .int .i64 2, .int .i64 (1728 % m), .int .i64 (p - 1), .int .i64 p, .int .i64 (-1)] 3)) ((Below.refl _ _).alloc (Nat.le_refl _) _)
  go_wp2_with fail
  refine (c_among _ _ _ xs 4 (by omega) [0, 1, 2, 1728 % m, p - 1, p, -1] (by simp) w'.heap.size (by omega) _ c3 (Blk.new w' _ _)).mono ?_
  rintro e w4 ⟨y, hy, rfl, hc4, o4⟩
  have hy' : -1 ≤ y ∧ y ≤ 37 := by simp at hy; omega
  go_wp2
  go_ret2
  exact ⟨p, y, rfl, p0, p1, by omega, by omega, below_over (o2.trans ((over_alloc w' _).trans o4))⟩
end Go.Proofs.Ytilgeeaobdebhaa
