/- Walks: wholes as text (wholeText, bgText). -/
import Derived.Test.YtmlfkceafkhlaaaDoorNumT
import Derived.Test.YtmlfkceafkhlaaaDoorBgG
import Derived.Deep.Cut
import Derived.Shelf.Abstract
namespace Go.Proofs.YtmlfkceafkhlaaaDoor
open Go.RowKit

/-- a digit to the base 10000, as it stands; filled up to four signs -/
def d4 (x : Int) : List UInt8 := Lib.decDigits x.toNat
def pad4 (x : Int) : List UInt8 := List.replicate (4 - (d4 x).length) 48 ++ d4 x
theorem d4_len {x : Int} (h : 0 ≤ x ∧ x ≤ 9999) : 1 ≤ (d4 x).length ∧ (d4 x).length ≤ 4 := by
  unfold d4
  rw [Lib.decDigits_length]
  refine ⟨Lib.nDigits_pos _, ?_⟩
  by_cases h1 : x.toNat < 10
  · rw [Lib.nDigits_small h1]; omega
  · rw [Lib.nDigits_big h1]
    by_cases h2 : x.toNat / 10 < 10
    · rw [Lib.nDigits_small h2]; omega
    · rw [Lib.nDigits_big h2]
      by_cases h3 : x.toNat / 10 / 10 < 10
      · rw [Lib.nDigits_small h3]; omega
      · rw [Lib.nDigits_big h3, Lib.nDigits_small (by omega)]
        omega
theorem pad4_len {x : Int} (h : 0 ≤ x ∧ x ≤ 9999) : (pad4 x).length = 4 := by
  have := d4_len h
  unfold pad4
  simp
  omega
theorem itoa_d4 {x : Int} (h : 0 ≤ x) : Lib.itoa x = d4 x := by
  unfold Lib.itoa d4
  rw [if_neg (by omega)]
/-- digits, the greatest first, as text -/
def wtR : List Int → List UInt8
  | [] => []
  | x :: r => d4 x ++ (r.map pad4).flatten
theorem wtR_snoc (R : List Int) (x : Int) : wtR (R ++ [x]) = wtR R ++ (if R = [] then d4 x else pad4 x) := by
  cases R with
  | nil => simp [wtR]
  | cons y r => simp [wtR]
theorem wtR_len : ∀ {R : List Int}, (∀ x ∈ R, 0 ≤ x ∧ x ≤ 9999) → (wtR R).length ≤ 4 * R.length
  | [], _ => by simp [wtR]
  | x :: r, h => by
    have h1 := (d4_len (h x (by simp))).2
    have h2 : ∀ (l : List Int), (∀ y ∈ l, 0 ≤ y ∧ y ≤ 9999) → ((l.map pad4).flatten).length = 4 * l.length := by
      intro l
      induction l with
      | nil => intro _; rfl
      | cons y l ih =>
        intro hy
        rw [List.map_cons, List.flatten_cons, List.length_append, pad4_len (hy y (by simp)), ih (fun z hz => hy z (by simp [hz]))]
        simp; omega
    have h3 := h2 r (fun y hy => h y (by simp [hy]))
    simp only [wtR, List.length_append, List.length_cons, h3]
    omega
/-- the text of the first digits, from above -/
def wtK (L : List Int) (k : Nat) : List UInt8 := wtR (L.reverse.take k)
theorem wtK_succ (L : List Int) (k : Nat) (h : k < L.length) : wtK L (k + 1) = wtK L k ++ (if k = 0 then d4 (L[L.length - 1 - k]?.getD 0) else pad4 (L[L.length - 1 - k]?.getD 0)) := by
  unfold wtK
  have hr : k < L.reverse.length := by simpa using h
  rw [List.take_succ_eq_append_getElem hr, wtR_snoc, List.getElem_reverse, List.getElem?_eq_getElem (by omega)]
  by_cases hk : k = 0
  · subst hk; simp
  · have hne : L.reverse.take k ≠ [] := by
      intro h9
      have h8 : (L.reverse.take k).length = 0 := by rw [h9]; rfl
      rw [List.length_take, List.length_reverse] at h8
      omega
    rw [if_neg hk, if_neg hne]
    rfl
theorem wtK_zero (L : List Int) : wtK L 0 = [] := rfl
theorem wtK_len {L : List Int} (h : Dg L) (k : Nat) : (wtK L k).length ≤ 4 * L.length := by
  have := wtR_len (R := L.reverse.take k) (fun x hx => h x (List.mem_reverse.1 (List.mem_of_mem_take hx)))
  have h2 : (L.reverse.take k).length ≤ L.length := by simp; omega
  unfold wtK
  omega
noncomputable def wtx (K : Int) : List UInt8 := if (dg K.natAbs) = [] then [48] else (if K < 0 then [45] else []) ++ wtK (dg K.natAbs) (dg K.natAbs).length
theorem Below.builder {T e : TypeId} {B b : Nat} {bs : List Value} {w w1 : World} (h : Lib.IsBuilder T e B b bs w) (hb : Below w.heap.size w w1) : Lib.IsBuilder T e B b bs w1 := by
  have key : ∀ p, Lib.BuilderAt T e B b p bs w → Lib.BuilderAt T e B b p bs w1 := fun p ⟨hB, v, hh, ho, hne⟩ => by
    have hlt : b < w.heap.size := Lib.BuilderAt.lt ⟨hB, v, hh, ho, hne⟩
    refine ⟨hB, v, (hb.block b hlt).trans hh, ⟨ho.1, ?_⟩, hne⟩
    rcases ho.2 with h0 | ⟨g, cap, cur, hv, hg, hh2, r⟩
    · exact .inl h0
    · exact .inr ⟨g, cap, cur, hv, hg, (hb.block g (Array.getElem?_eq_some_iff.1 hh2).1).trans hh2, r⟩
  exact h.imp (key _) (key _)
theorem RdL.getC {w : World} {v : Value} {L : List Int} (h : RdL w v L) {i : Nat} (hi : i < L.length) : ∃ g o, (∃ cap, v = .slice (some ⟨g, o, none⟩) L.length cap) ∧ w.cell? ⟨g, o + i, none⟩ = some (.int .i64 (L[i]?.getD 0)) ∧ g < w.heap.size := by
  obtain ⟨a, cap, hv, _, hc⟩ := h
  obtain ⟨g, o, ha, q, hg⟩ := hc i hi
  exact ⟨g, o, ⟨cap, by rw [hv, ha]⟩, q, hg⟩
theorem c_writeS (b : Nat) (l : List UInt8) (s : ByteArray) (w : World) (h : Lib.IsBuilder 45 5 b b (Lib.byteCells l) w) (hl : l.length + s.size ≤ 100000) (hb : b ≤ w.heap.size) :
    Calls Tryd.prog 20 #[.pointer (some ⟨b, 0, none⟩), .string s] w fun e w' => e = .returned (.tuple #[.int .i64 s.size, .nilIface]) ∧ Lib.IsBuilder 45 5 b b (Lib.byteCells (l ++ s.data.toList)) w' ∧ Below b w w' := by
  have hlen : (Lib.byteCells l).length = l.length := by simp [Lib.byteCells]
  have e : Lib.byteCells (l ++ s.data.toList) = Lib.byteCells l ++ Lib.strCells s := by rw [Lib.strCells_eq]; simp [Lib.byteCells]
  rw [e]
  exact (Any.Builder_WriteString { Tryd.lays105 with } Tryd.Builder_Extra_105 b b (Lib.byteCells l) s w h (by rw [hlen]; omega) hb).mono fun _ _ ⟨h1, h2, h3⟩ => ⟨h1, .inr h2, h3⟩
set_option maxHeartbeats 2000000 in
set_option maxRecDepth 20000 in
theorem c_wholeText (K : Int) (a : Value) (hl : (dg K.natAbs).length ≤ 1000) (w : World) (ht : TabI w) (ha : WhR K a w) :
    Calls Tryd.prog 10 #[a] w fun e w' => e = .returned (.string ⟨(wtx K).toArray⟩) ∧ Below w.heap.size w w' := by
  obtain ⟨la, rfl, hr⟩ := ha
  have hD := (dg_Dg K.natAbs).1
  have hsg : K < 0 → dg K.natAbs ≠ [] := fun h h2 => by have := dg_nil.1 h2; omega
  have hwt : wtx K = if (dg K.natAbs) = [] then [48] else (if K < 0 then [45] else []) ++ wtK (dg K.natAbs) (dg K.natAbs).length := rfl
  have HR := Lib.hid hr
  have HT := Lib.hid ht
  obtain ⟨ra, cap, rfl, _, _⟩ := hr
  have kA := (Blk.new w #[.bool (decide (K < 0)), .slice ra (dg K.natAbs).length cap] 31).alloc (.cells #[.pointer none, .slice none 0 0] 45)
  have hb0 : Below w.heap.size w ((w.alloc (.cells #[.bool (decide (K < 0)), .slice ra (dg K.natAbs).length cap] 31)).alloc (.cells #[.pointer none, .slice none 0 0] 45)) := ((Below.refl _ _).alloc (Nat.le_refl _) _).alloc (by simp) _
  have hI := Lib.fresh_isBuilder 45 5 (w.alloc (.cells #[.bool (decide (K < 0)), .slice ra (dg K.natAbs).length cap] 31))
  simp only [World.size_alloc] at hI
  have hsz : ((w.alloc (.cells #[.bool (decide (K < 0)), .slice ra (dg K.natAbs).length cap] 31)).alloc (.cells #[.pointer none, .slice none 0 0] 45)).heap.size = w.heap.size + 1 + 1 := by simp
  have HW := Lib.hid hwt
  generalize wtx K = TXT at *
  generalize hLd : dg K.natAbs = L at *
  have HLD := Lib.hid hLd
  obtain ⟨n, hn⟩ : ∃ n, L.length = n := ⟨_, rfl⟩
  have HN := Lib.hid hn
  rw [hn] at kA hb0 hI hsz hl ⊢
  clear hwt hLd hn ht
  have HS : Hid (decide (K < 0) = true → L ≠ []) := fun h => hsg (by simpa using h)
  have HK : Hid ((if K < 0 then [45] else [] : List UInt8) = if decide (K < 0) then [45] else []) := by show _ = _; by_cases h : K < 0 <;> simp [h]
  clear hsg
  generalize decide (K < 0) = sg at *
  go_enter Tryd.func10, Tryd.ntmps10
  go_upto_region 2 with (fail)
  generalize hWW : (w.alloc _).alloc _ = W at *
  clear hWW
  obtain ⟨b, hb⟩ : ∃ b, w.heap.size + 1 = b := ⟨_, rfl⟩
  rw [hb] at hI hsz ⊢
  have hwb : w.heap.size < b := by omega
  clear hb
  have hbW : b ≤ W.heap.size := by omega
  have a0 : W.cell? ⟨w.heap.size, 0, none⟩ = some (.bool sg) := kA.cell 0
  have a1 : W.cell? ⟨w.heap.size, 1, none⟩ = some (.slice ra n cap) := kA.cell 1
  have HMAIN : Hid (∀ wr m, m < n → Below w.heap.size w wr → ∃ g o, ra = some ⟨g, o, none⟩ ∧ wr.cell? ⟨g, o + m, none⟩ = some (.int .i64 (L[m]?.getD 0)) ∧ (0 ≤ L[m]?.getD 0 ∧ L[m]?.getD 0 ≤ 9999)) := fun wr m hm hbw => by
    have hm' : m < L.length := by rw [HN.out]; exact hm
    obtain ⟨g, o, ⟨c, hv⟩, q, _⟩ := (HR.out.below hbw).getC hm'
    injection hv with e _ _
    refine ⟨g, o, e, q, ?_⟩
    rw [List.getElem?_eq_getElem hm']
    exact hD _ (List.getElem_mem hm')
  have hKL : Hid (∀ k, (wtK L k).length ≤ 4000) := fun k => by
    have := wtK_len hD k
    have := HN.out
    omega
  clear hD HR
  cases sg
  · have hB : Below b W W := Below.refl _ _
    go_wp2
    go_loopw [4] (fun iv wr => ∃ m : Nat, m ≤ n ∧ iv = .int .i64 ((m : Int) - 1) ∧ Lib.IsBuilder 45 5 b b (Lib.byteCells ([] ++ wtK L (n - m))) wr ∧ Below b W wr) (fun iv _ => (intOf iv + 1).toNat)
    case atStart => exact ⟨n, Nat.le_refl _, rfl, by rw [Nat.sub_self, wtK_zero]; exact hI, hB⟩
    case round =>
      obtain ⟨m, hm, rfl, hq, hbb⟩ := hrel
      clear hI hB
      have hbs := hbb.size
      have hbr : b ≤ wr.heap.size := by omega
      have hbw : Below w.heap.size w wr := hb0.trans (hbb.mono (by omega))
      have a0 : wr.cell? ⟨w.heap.size, 0, none⟩ = some (.bool _) := (hbb.cell (p := ⟨w.heap.size, 0, none⟩) hwb).trans a0
      have a1 : wr.cell? ⟨w.heap.size, 1, none⟩ = some (.slice ra n cap) := (hbb.cell (p := ⟨w.heap.size, 1, none⟩) hwb).trans a1
      cases m with
      | zero =>
        rw [Nat.sub_zero] at hq
        by_cases hn0 : n = 0
        · have hL0 : L = [] := List.length_eq_zero_iff.1 (by rw [HN.out]; exact hn0)
          have hv : Hid (TXT = [48]) := HW.out.trans (if_pos hL0)
          have hz : (n : Int) = 0 := by omega
          clear HMAIN HW HS HK HLD
          go_wp2
          refine bodyPost_ret (v := .string ⟨#[48]⟩) (by simp [results, Tryd.results10, go_sem]) rfl ?_
          exact ⟨by rw [hv.out], hbw⟩
        · have hL0 : L ≠ [] := fun h => hn0 (by rw [← HN.out, h]; rfl)
          have hv : Hid (TXT = [] ++ wtK L n) := by
            show _ = _
            rw [HW.out, if_neg hL0, HK.out, HN.out]
            rfl
          have hz : ¬ (n : Int) = 0 := by omega
          have HC := Lib.hid (Tryd.Builder_String_any b b ([] ++ wtK L n) wr hq hbr)
          clear HMAIN HW HS HK HLD hq
          go_wp2_with fail
          refine HC.out.mono ?_
          rintro e w9 ⟨rfl, hb9⟩
          have hbw9 : Below w.heap.size w w9 := hbw.trans (hb9.mono (by omega))
          go_wp2
          refine bodyPost_ret (v := .string ⟨([] ++ wtK L n).toArray⟩) (by simp [results, Tryd.results10, go_sem]) rfl ?_
          exact ⟨by rw [hv.out], hbw9⟩
      | succ j =>
        have hj : ((j + 1 : Nat) : Int) - 1 = (j : Int) := by omega
        rw [hj]
        obtain ⟨g, o, hra, qx, hx⟩ := HMAIN.out wr j (by omega) hbw
        subst hra
        have HK2 : Hid (wtK L (n - j) = wtK L (n - (j + 1)) ++ (if n - (j + 1) = 0 then d4 (L[j]?.getD 0) else pad4 (L[j]?.getD 0))) := by
          have h1 := wtK_succ L (n - (j + 1)) (by rw [HN.out]; omega)
          rw [show n - (j + 1) + 1 = n - j by omega, HN.out, show n - 1 - (n - (j + 1)) = j by omega] at h1
          exact h1
        have hkl := hKL.out (n - (j + 1))
        generalize L[j]?.getD 0 = x at *
        have hdl := d4_len hx
        have HIT := Lib.hid (c_itoa x (by omega) (by omega) wr (HT.out.below hbw))
        rw [itoa_d4 hx.1] at HIT
        obtain ⟨S, hS⟩ : ∃ S : ByteArray, (⟨(d4 x).toArray⟩ : ByteArray) = S := ⟨_, rfl⟩
        have hSd : Hid (S.data.toList = d4 x) := by show _ = _; rw [← hS]
        have hSz : S.size = (d4 x).length := by rw [← hS]; show (d4 x).toArray.size = _; simp
        have HSZ := Lib.hid hSz
        have hsb : 1 ≤ S.size ∧ S.size ≤ 4 := by omega
        clear hSz
        rw [hS] at HIT
        clear hS
        have i0 : (0 : Int) ≤ (j : Int) := by omega
        have i1 : (j : Int) < (n : Int) := by omega
        go_wp2_with fail
        refine HIT.out.mono ?_
        rintro e w1 ⟨rfl, hb1⟩
        have hq1 := Below.builder hq hb1
        have hbb1 : Below b W w1 := hbb.trans (hb1.mono hbr)
        have hbw1 : Below w.heap.size w w1 := hbw.trans (hb1.mono (by omega))
        have hs1 := hb1.size
        have a0 := (hb1.cell (p := ⟨w.heap.size, 0, none⟩) (show w.heap.size < wr.heap.size by omega)).trans a0
        have a1 := (hb1.cell (p := ⟨w.heap.size, 1, none⟩) (show w.heap.size < wr.heap.size by omega)).trans a1
        clear hq HIT hb1 qx
        by_cases hf : j + 1 = n
        · have hnl : ¬ (j : Int) < (n : Int) - 1 := by omega
          have he : Hid ([] ++ wtK L (n - (j + 1)) ++ S.data.toList = [] ++ wtK L (n - j)) := by show _ = _; rw [HK2.out, if_pos (by omega), hSd.out, List.append_assoc]
          have HC := Lib.hid (c_writeS b ([] ++ wtK L (n - (j + 1))) S w1 hq1 (by simp; omega) (by omega))
          rw [he.out] at HC
          clear hq1 he HK2
          go_wp2_with fail
          refine HC.out.mono ?_
          rintro e w2 ⟨rfl, hq2, hb2⟩
          have hbb2 : Below b W w2 := hbb1.trans hb2
          go_wp2
          go_roundw
          case rel => exact ⟨j, by omega, by go_num, hq2, hbb2⟩
          case measure => simp [intOf]
        · have hnl : (j : Int) < (n : Int) - 1 := by omega
          obtain ⟨q, hqq⟩ : ∃ q : Nat, (4 : Int) - (S.size : Int) = (q : Int) := ⟨4 - S.size, by omega⟩
          have hrep : Hid (Lib.repeatL [48] q = List.replicate (4 - (d4 x).length) 48) := by
            show _ = _
            have h1 := Lib.repeatL_replicate 48 1 q
            rw [show List.replicate 1 (48 : UInt8) = [48] from rfl] at h1
            rw [h1]
            congr 1
            have := HSZ.out
            omega
          have HRP := Lib.hid (Tryd.strings_Repeat ⟨#[48]⟩ q w1 (by omega) (by show 1 * q ≤ _; omega))
          obtain ⟨RB, hRB⟩ : ∃ RB : ByteArray, (⟨(Lib.repeatL (⟨#[48]⟩ : ByteArray).data.toList q).toArray⟩ : ByteArray) = RB := ⟨_, rfl⟩
          have hRd : Hid (RB.data.toList = List.replicate (4 - (d4 x).length) 48) := by show _ = _; rw [← hRB]; exact hrep.out
          have hRz : RB.size = 4 - (d4 x).length := by
            have := congrArg List.length hRd.out
            rw [← Lib.size_eq] at this
            simpa using this
          have hrb : RB.size ≤ 4 := by omega
          rw [hRB] at HRP
          clear hRB hrep hRz
          go_wp2_with fail
          refine HRP.out.mono ?_
          rintro e w2 ⟨rfl, hb2⟩
          have hq2 := Below.builder hq1 hb2
          have hbb2 : Below b W w2 := hbb1.trans (hb2.mono (by omega))
          have hs2 := hb2.size
          have HC := Lib.hid (c_writeS b ([] ++ wtK L (n - (j + 1))) RB w2 hq2 (by simp; omega) (by omega))
          clear hq1 hq2 HRP hb2
          go_wp2_with fail
          refine HC.out.mono ?_
          rintro e w3 ⟨rfl, hq3, hb3⟩
          have hbb3 : Below b W w3 := hbb2.trans hb3
          have hs3 := hb3.size
          have he : Hid ([] ++ wtK L (n - (j + 1)) ++ RB.data.toList ++ S.data.toList = [] ++ wtK L (n - j)) := by show _ = _; rw [HK2.out, if_neg (by omega), hSd.out, hRd.out]; simp [pad4]
          have HC2 := Lib.hid (c_writeS b ([] ++ wtK L (n - (j + 1)) ++ RB.data.toList) S w3 hq3 (by rw [hRd.out]; simp; omega) (by omega))
          rw [he.out] at HC2
          clear HC hq3 hb3 he HK2
          go_wp2_with fail
          refine HC2.out.mono ?_
          rintro e w4 ⟨rfl, hq4, hb4⟩
          have hbb4 : Below b W w4 := hbb3.trans hb4
          go_wp2
          go_roundw
          case rel => exact ⟨j, by omega, by go_num, hq4, hbb4⟩
          case measure => simp [intOf]
  · have HC := Lib.hid (c_writeS b [] ⟨#[45]⟩ W hI (by decide) hbW)
    clear hI
    go_wp2_with fail
    refine HC.out.mono ?_
    rintro e W2 ⟨rfl, hI, hB⟩
    have b0 := (hB.cell (p := ⟨w.heap.size, 0, none⟩) hwb).trans a0
    have b1 := (hB.cell (p := ⟨w.heap.size, 1, none⟩) hwb).trans a1
    clear HC
    go_wp2
    go_loopw [4] (fun iv wr => ∃ m : Nat, m ≤ n ∧ iv = .int .i64 ((m : Int) - 1) ∧ Lib.IsBuilder 45 5 b b (Lib.byteCells ([45] ++ wtK L (n - m))) wr ∧ Below b W wr) (fun iv _ => (intOf iv + 1).toNat)
    case atStart => exact ⟨n, Nat.le_refl _, rfl, by rw [Nat.sub_self, wtK_zero]; exact hI, hB⟩
    case round =>
      obtain ⟨m, hm, rfl, hq, hbb⟩ := hrel
      clear hI hB
      have hbs := hbb.size
      have hbr : b ≤ wr.heap.size := by omega
      have hbw : Below w.heap.size w wr := hb0.trans (hbb.mono (by omega))
      have a0 : wr.cell? ⟨w.heap.size, 0, none⟩ = some (.bool _) := (hbb.cell (p := ⟨w.heap.size, 0, none⟩) hwb).trans a0
      have a1 : wr.cell? ⟨w.heap.size, 1, none⟩ = some (.slice ra n cap) := (hbb.cell (p := ⟨w.heap.size, 1, none⟩) hwb).trans a1
      cases m with
      | zero =>
        rw [Nat.sub_zero] at hq
        by_cases hn0 : n = 0
        · have hL0 : L = [] := List.length_eq_zero_iff.1 (by rw [HN.out]; exact hn0)
          have hv : Hid (TXT = [48]) := HW.out.trans (if_pos hL0)
          have hz : (n : Int) = 0 := by omega
          clear HMAIN HW HS HK HLD
          go_wp2
          refine bodyPost_ret (v := .string ⟨#[48]⟩) (by simp [results, Tryd.results10, go_sem]) rfl ?_
          exact ⟨by rw [hv.out], hbw⟩
        · have hL0 : L ≠ [] := fun h => hn0 (by rw [← HN.out, h]; rfl)
          have hv : Hid (TXT = [45] ++ wtK L n) := by
            show _ = _
            rw [HW.out, if_neg hL0, HK.out, HN.out]
            rfl
          have hz : ¬ (n : Int) = 0 := by omega
          have HC := Lib.hid (Tryd.Builder_String_any b b ([45] ++ wtK L n) wr hq hbr)
          clear HMAIN HW HS HK HLD hq
          go_wp2_with fail
          refine HC.out.mono ?_
          rintro e w9 ⟨rfl, hb9⟩
          have hbw9 : Below w.heap.size w w9 := hbw.trans (hb9.mono (by omega))
          go_wp2
          refine bodyPost_ret (v := .string ⟨([45] ++ wtK L n).toArray⟩) (by simp [results, Tryd.results10, go_sem]) rfl ?_
          exact ⟨by rw [hv.out], hbw9⟩
      | succ j =>
        have hj : ((j + 1 : Nat) : Int) - 1 = (j : Int) := by omega
        rw [hj]
        obtain ⟨g, o, hra, qx, hx⟩ := HMAIN.out wr j (by omega) hbw
        subst hra
        have HK2 : Hid (wtK L (n - j) = wtK L (n - (j + 1)) ++ (if n - (j + 1) = 0 then d4 (L[j]?.getD 0) else pad4 (L[j]?.getD 0))) := by
          have h1 := wtK_succ L (n - (j + 1)) (by rw [HN.out]; omega)
          rw [show n - (j + 1) + 1 = n - j by omega, HN.out, show n - 1 - (n - (j + 1)) = j by omega] at h1
          exact h1
        have hkl := hKL.out (n - (j + 1))
        generalize L[j]?.getD 0 = x at *
        have hdl := d4_len hx
        have HIT := Lib.hid (c_itoa x (by omega) (by omega) wr (HT.out.below hbw))
        rw [itoa_d4 hx.1] at HIT
        obtain ⟨S, hS⟩ : ∃ S : ByteArray, (⟨(d4 x).toArray⟩ : ByteArray) = S := ⟨_, rfl⟩
        have hSd : Hid (S.data.toList = d4 x) := by show _ = _; rw [← hS]
        have hSz : S.size = (d4 x).length := by rw [← hS]; show (d4 x).toArray.size = _; simp
        have HSZ := Lib.hid hSz
        have hsb : 1 ≤ S.size ∧ S.size ≤ 4 := by omega
        clear hSz
        rw [hS] at HIT
        clear hS
        have i0 : (0 : Int) ≤ (j : Int) := by omega
        have i1 : (j : Int) < (n : Int) := by omega
        go_wp2_with fail
        refine HIT.out.mono ?_
        rintro e w1 ⟨rfl, hb1⟩
        have hq1 := Below.builder hq hb1
        have hbb1 : Below b W w1 := hbb.trans (hb1.mono hbr)
        have hbw1 : Below w.heap.size w w1 := hbw.trans (hb1.mono (by omega))
        have hs1 := hb1.size
        have a0 := (hb1.cell (p := ⟨w.heap.size, 0, none⟩) (show w.heap.size < wr.heap.size by omega)).trans a0
        have a1 := (hb1.cell (p := ⟨w.heap.size, 1, none⟩) (show w.heap.size < wr.heap.size by omega)).trans a1
        clear hq HIT hb1 qx
        by_cases hf : j + 1 = n
        · have hnl : ¬ (j : Int) < (n : Int) - 1 := by omega
          have he : Hid ([45] ++ wtK L (n - (j + 1)) ++ S.data.toList = [45] ++ wtK L (n - j)) := by show _ = _; rw [HK2.out, if_pos (by omega), hSd.out, List.append_assoc]
          have HC := Lib.hid (c_writeS b ([45] ++ wtK L (n - (j + 1))) S w1 hq1 (by simp; omega) (by omega))
          rw [he.out] at HC
          clear hq1 he HK2
          go_wp2_with fail
          refine HC.out.mono ?_
          rintro e w2 ⟨rfl, hq2, hb2⟩
          have hbb2 : Below b W w2 := hbb1.trans hb2
          go_wp2
          go_roundw
          case rel => exact ⟨j, by omega, by go_num, hq2, hbb2⟩
          case measure => simp [intOf]
        · have hnl : (j : Int) < (n : Int) - 1 := by omega
          obtain ⟨q, hqq⟩ : ∃ q : Nat, (4 : Int) - (S.size : Int) = (q : Int) := ⟨4 - S.size, by omega⟩
          have hrep : Hid (Lib.repeatL [48] q = List.replicate (4 - (d4 x).length) 48) := by
            show _ = _
            have h1 := Lib.repeatL_replicate 48 1 q
            rw [show List.replicate 1 (48 : UInt8) = [48] from rfl] at h1
            rw [h1]
            congr 1
            have := HSZ.out
            omega
          have HRP := Lib.hid (Tryd.strings_Repeat ⟨#[48]⟩ q w1 (by omega) (by show 1 * q ≤ _; omega))
          obtain ⟨RB, hRB⟩ : ∃ RB : ByteArray, (⟨(Lib.repeatL (⟨#[48]⟩ : ByteArray).data.toList q).toArray⟩ : ByteArray) = RB := ⟨_, rfl⟩
          have hRd : Hid (RB.data.toList = List.replicate (4 - (d4 x).length) 48) := by show _ = _; rw [← hRB]; exact hrep.out
          have hRz : RB.size = 4 - (d4 x).length := by
            have := congrArg List.length hRd.out
            rw [← Lib.size_eq] at this
            simpa using this
          have hrb : RB.size ≤ 4 := by omega
          rw [hRB] at HRP
          clear hRB hrep hRz
          go_wp2_with fail
          refine HRP.out.mono ?_
          rintro e w2 ⟨rfl, hb2⟩
          have hq2 := Below.builder hq1 hb2
          have hbb2 : Below b W w2 := hbb1.trans (hb2.mono (by omega))
          have hs2 := hb2.size
          have HC := Lib.hid (c_writeS b ([45] ++ wtK L (n - (j + 1))) RB w2 hq2 (by simp; omega) (by omega))
          clear hq1 hq2 HRP hb2
          go_wp2_with fail
          refine HC.out.mono ?_
          rintro e w3 ⟨rfl, hq3, hb3⟩
          have hbb3 : Below b W w3 := hbb2.trans hb3
          have hs3 := hb3.size
          have he : Hid ([45] ++ wtK L (n - (j + 1)) ++ RB.data.toList ++ S.data.toList = [45] ++ wtK L (n - j)) := by show _ = _; rw [HK2.out, if_neg (by omega), hSd.out, hRd.out]; simp [pad4]
          have HC2 := Lib.hid (c_writeS b ([45] ++ wtK L (n - (j + 1)) ++ RB.data.toList) S w3 hq3 (by rw [hRd.out]; simp; omega) (by omega))
          rw [he.out] at HC2
          clear HC hq3 hb3 he HK2
          go_wp2_with fail
          refine HC2.out.mono ?_
          rintro e w4 ⟨rfl, hq4, hb4⟩
          have hbb4 : Below b W w4 := hbb3.trans hb4
          go_wp2
          go_roundw
          case rel => exact ⟨j, by omega, by go_num, hq4, hbb4⟩
          case measure => simp [intOf]
def strSz : Value → Nat
  | .string s => s.size
  | _ => 0
set_option maxHeartbeats 2000000 in
set_option maxRecDepth 20000 in
theorem c_bgText (K : Int) (a : Value) (hl : (dg K.natAbs).length ≤ 1000) (w : World) (ha : WhR K a w) :
    Calls Tryd.prog 8 #[a] w fun e w' => e = .returned (.string ⟨(wtx K).toArray⟩) ∧ Below w.heap.size w w' := by
  obtain ⟨la, rfl, hr⟩ := ha
  have hD := (dg_Dg K.natAbs).1
  have hwt : wtx K = if (dg K.natAbs) = [] then [48] else (if K < 0 then [45] else []) ++ wtK (dg K.natAbs) (dg K.natAbs).length := rfl
  have HR := Lib.hid hr
  obtain ⟨ra, cap, rfl, _, _⟩ := hr
  have kA := Blk.new w #[.bool (decide (K < 0)), .slice ra (dg K.natAbs).length cap] 31
  have hb0 : Below w.heap.size w (w.alloc (.cells #[.bool (decide (K < 0)), .slice ra (dg K.natAbs).length cap] 31)) := (Below.refl _ _).alloc (Nat.le_refl _) _
  have hsz : (w.alloc (.cells #[.bool (decide (K < 0)), .slice ra (dg K.natAbs).length cap] 31)).heap.size = w.heap.size + 1 := by simp
  have HW := Lib.hid hwt
  generalize wtx K = TXT at *
  generalize hLd : dg K.natAbs = L at *
  obtain ⟨n, hn⟩ : ∃ n, L.length = n := ⟨_, rfl⟩
  have HN := Lib.hid hn
  rw [hn] at kA hb0 hsz hl ⊢
  clear hwt hLd hn
  have HK : Hid ((if K < 0 then [45] else [] : List UInt8) = if decide (K < 0) then [45] else []) := by show _ = _; by_cases h : K < 0 <;> simp [h]
  generalize decide (K < 0) = sg at *
  have HMAIN : Hid (∀ wr m, m < n → Below w.heap.size w wr → ∃ g o, ra = some ⟨g, o, none⟩ ∧ wr.cell? ⟨g, o + m, none⟩ = some (.int .i64 (L[m]?.getD 0)) ∧ (0 ≤ L[m]?.getD 0 ∧ L[m]?.getD 0 ≤ 9999)) := fun wr m hm hbw => by
    have hm' : m < L.length := by rw [HN.out]; exact hm
    obtain ⟨g, o, ⟨c, hv⟩, q, _⟩ := (HR.out.below hbw).getC hm'
    injection hv with e _ _
    refine ⟨g, o, e, q, ?_⟩
    rw [List.getElem?_eq_getElem hm']
    exact hD _ (List.getElem_mem hm')
  have hKL : Hid (∀ k, (wtK L k).length ≤ 4000) := fun k => by
    have := wtK_len hD k
    have := HN.out
    omega
  clear hD HR
  go_enter Tryd.func8, Tryd.ntmps8
  go_upto_region 1 with (fail)
  generalize hWW : w.alloc _ = W at *
  clear hWW
  have hwb : w.heap.size < W.heap.size := by omega
  have a0 : W.cell? ⟨w.heap.size, 0, none⟩ = some (.bool sg) := kA.cell 0
  have a1 : W.cell? ⟨w.heap.size, 1, none⟩ = some (.slice ra n cap) := kA.cell 1
  cases n with
  | zero =>
    have hL0 : L = [] := List.length_eq_zero_iff.1 HN.out
    have hv : Hid (TXT = [48]) := HW.out.trans (if_pos hL0)
    clear HMAIN HW HK
    go_wp2
    refine bodyPost_ret (v := .string ⟨#[48]⟩) (by simp [results, Tryd.results8, go_sem]) rfl ?_
    exact ⟨by rw [hv.out], hb0⟩
  | succ p =>
    have hL0 : L ≠ [] := fun h => by have := HN.out; rw [h] at this; simp at this
    have hv : Hid (TXT = (if sg then [45] else []) ++ wtK L (p + 1)) := by
      show _ = _
      rw [HW.out, if_neg hL0, HK.out, HN.out]
    have hp1 : ((p + 1 : Nat) : Int) - 1 = (p : Int) := by omega
    have hp2 : ((p + 1 : Nat) : Int) - 2 = (p : Int) - 1 := by omega
    have hp0 : ¬ ((p + 1 : Nat) : Int) = 0 := by omega
    obtain ⟨g, o, hra, qx, hx⟩ := HMAIN.out W p (by omega) hb0
    subst hra
    have HK0 : Hid (wtK L 1 = d4 (L[p]?.getD 0)) := by
      have h1 := wtK_succ L 0 (by rw [HN.out]; omega)
      rw [if_pos rfl, wtK_zero, HN.out] at h1
      show _ = _
      simpa using h1
    have HL1 := Lib.hid (c_l1Num (L[p]?.getD 0).toNat (L[p]?.getD 0).toNat (Nat.le_refl _) (by omega) W)
    rw [Int.toNat_of_nonneg hx.1] at HL1
    clear HW HK hL0
    have HL2 : Hid (Calls Tryd.prog 15 #[.int .i64 (L[p]?.getD 0)] W fun e w' => e = .returned (.string ⟨(wtK L 1).toArray⟩) ∧ Below W.heap.size W w') := by
      show Calls _ _ _ _ _
      rw [HK0.out]
      exact HL1.out
    clear HL1 HK0
    generalize L[p]?.getD 0 = x at *
    clear hx
    go_wp2_with fail
    refine HL2.out.mono ?_
    rintro e w1 ⟨rfl, hb1⟩
    have hbb1 : Below w.heap.size w w1 := below_step hb1 hb0.size hb0
    have a0 := (hb1.cell (p := ⟨w.heap.size, 0, none⟩) hwb).trans a0
    have a1 := (hb1.cell (p := ⟨w.heap.size, 1, none⟩) hwb).trans a1
    have hwb1 : w.heap.size < w1.heap.size := Nat.lt_of_lt_of_le hwb hb1.size
    clear HL2 qx hb1 hwb kA hb0
    go_wp2
    go_loopw [4, 5] (fun sv iv wr => ∃ m : Nat, m ≤ p ∧ iv = .int .i64 ((m : Int) - 1) ∧ sv = .string ⟨(wtK L (p + 1 - m)).toArray⟩ ∧ Below w1.heap.size w1 wr) (fun _ iv _ => (intOf iv + 1).toNat)
    case atStart => exact ⟨p, Nat.le_refl _, by congr 1, by rw [Nat.add_sub_cancel_left], Below.refl _ _⟩
    case round =>
      obtain ⟨m, hm, rfl, rfl, hq⟩ := hrel
      have hbw : Below w.heap.size w wr := below_step hq hbb1.size hbb1
      have a0 := (hq.cell (p := ⟨w.heap.size, 0, none⟩) hwb1).trans a0
      have a1 := (hq.cell (p := ⟨w.heap.size, 1, none⟩) hwb1).trans a1
      have hkl := hKL.out (p + 1 - m)
      cases m with
      | zero =>
        rw [Nat.sub_zero] at hkl ⊢
        cases sg
        · clear HMAIN
          go_wp2
          refine bodyPost_ret (v := .string ⟨(wtK L (p + 1)).toArray⟩) (by simp [results, Tryd.results8, go_sem]) rfl ?_
          exact ⟨by rw [hv.out]; rfl, hbw⟩
        · have hsz1 : (⟨(wtK L (p + 1)).toArray⟩ : ByteArray).size ≤ 4000 := by show (wtK L (p + 1)).toArray.size ≤ _; simpa using hkl
          have z1 : (⟨#[45]⟩ : ByteArray).size = 1 := rfl
          have hcat : Hid ((⟨#[45]⟩ : ByteArray) ++ ⟨(wtK L (p + 1)).toArray⟩ = ⟨TXT.toArray⟩) := by
            show _ = _
            rw [hv.out]
            apply ByteArray.ext
            simp
          generalize (⟨(wtK L (p + 1)).toArray⟩ : ByteArray) = B at *
          have HA := fun w => run_string_add_sum (P := Tryd.prog) w ⟨#[45]⟩ B (by omega)
          clear HMAIN
          go_wp2
          refine bodyPost_ret (v := .string (⟨#[45]⟩ ++ B)) (by simp [results, Tryd.results8, go_sem]) rfl ?_
          exact ⟨by rw [hcat.out], hbw⟩
      | succ j =>
        have hj : ((j + 1 : Nat) : Int) - 1 = (j : Int) := by omega
        rw [hj, show p + 1 - (j + 1) = p - j by omega]
        rw [show p + 1 - (j + 1) = p - j by omega] at hkl
        obtain ⟨g', o', hra, qx, hx⟩ := HMAIN.out wr j (by omega) hbw
        injection hra with hra
        injection hra with hr1 hr2
        subst hr1 hr2
        have HK2 : Hid (wtK L (p + 1 - j) = wtK L (p - j) ++ pad4 (L[j]?.getD 0)) := by
          have h1 := wtK_succ L (p - j) (by rw [HN.out]; omega)
          rw [if_neg (by omega), show p - j + 1 = p + 1 - j by omega, HN.out, show p + 1 - 1 - (p - j) = j by omega] at h1
          exact h1
        have HL1 := Lib.hid (c_l1Num (L[j]?.getD 0).toNat (L[j]?.getD 0).toNat (Nat.le_refl _) (by omega) wr)
        rw [Int.toNat_of_nonneg hx.1] at HL1
        generalize L[j]?.getD 0 = x2 at *
        have hdl := d4_len hx
        replace HL1 : Hid (Calls Tryd.prog 15 #[.int .i64 x2] wr fun e w' => e = .returned (.string ⟨(d4 x2).toArray⟩) ∧ Below wr.heap.size wr w') := HL1
        have i0 : (0 : Int) ≤ (j : Int) := by omega
        have i1 : (j : Int) < ((p + 1 : Nat) : Int) := by omega
        go_wp2_with fail
        refine HL1.out.mono ?_
        rintro e w2 ⟨rfl, hb2⟩
        have hq2 : Below w1.heap.size w1 w2 := below_step hb2 hq.size hq
        clear HL1 qx hb2 hq hbw a0 a1
        have hst : Hid ((⟨(d4 x2).toArray⟩ : ByteArray) = ⟨(List.replicate 0 48 ++ d4 x2).toArray⟩) := by show _ = _; simp
        have hd4 : Hid ((d4 x2).length = (d4 x2).length) := rfl
        obtain ⟨D, hDD⟩ : ∃ D, d4 x2 = D := ⟨_, rfl⟩
        have HP4 : Hid (pad4 x2 = List.replicate (4 - D.length) 48 ++ D) := by show _ = _; rw [← hDD]; rfl
        rw [hDD] at hdl ⊢
        clear hst hd4 hDD hx
        go_wp2
        go_loopw [6] (fun tv wq => ∃ q : Nat, q + D.length ≤ 4 ∧ tv = .string ⟨(List.replicate q 48 ++ D).toArray⟩ ∧ w2 = wq) (fun tv _ => 4 - strSz tv)
        case atStart => exact ⟨0, by omega, by simp, rfl⟩
        case round =>
          obtain ⟨q, hq4, rfl, rfl⟩ := hrel
          have hsq : (⟨(List.replicate q 48 ++ D).toArray⟩ : ByteArray).size = q + D.length := by show (List.replicate q 48 ++ D).toArray.size = _; simp
          by_cases hlt : q + D.length < 4
          · have hcat : Hid ((⟨#[48]⟩ : ByteArray) ++ ⟨(List.replicate q 48 ++ D).toArray⟩ = ⟨(List.replicate (q + 1) 48 ++ D).toArray⟩) := by
              show _ = _
              apply ByteArray.ext
              simp [List.replicate_succ]
            have hsq2 : (⟨(List.replicate (q + 1) 48 ++ D).toArray⟩ : ByteArray).size = q + 1 + D.length := by show (List.replicate (q + 1) 48 ++ D).toArray.size = _; simp
            have HS2 := Lib.hid hsq2
            have HS1 := Lib.hid hsq
            clear hsq2
            generalize (⟨(List.replicate q 48 ++ D).toArray⟩ : ByteArray) = B at *
            have hB4 : (B.size : Int) < 4 := by omega
            have z1 : (⟨#[48]⟩ : ByteArray).size = 1 := rfl
            have HA := fun w => run_string_add_sum (P := Tryd.prog) w ⟨#[48]⟩ B (by omega)
            clear hsq
            go_wp2
            go_roundw
            case rel => exact ⟨q + 1, by omega, by rw [hcat.out], trivial⟩
            case measure =>
              have h1 := HS1.out
              have h2 := HS2.out
              rw [← hcat.out] at h2
              simp only [strSz]
              omega
          · have hqe : q = 4 - D.length := by omega
            have he : Hid ((⟨(wtK L (p - j)).toArray⟩ : ByteArray) ++ ⟨(List.replicate q 48 ++ D).toArray⟩ = ⟨(wtK L (p + 1 - j)).toArray⟩) := by
              show _ = _
              rw [HK2.out, HP4.out, hqe]
              apply ByteArray.ext
              simp
            have hA4 : (⟨(wtK L (p - j)).toArray⟩ : ByteArray).size ≤ 4000 := by show (wtK L (p - j)).toArray.size ≤ _; simpa using hkl
            clear hqe HK2 HP4
            generalize (⟨(List.replicate q 48 ++ D).toArray⟩ : ByteArray) = B at *
            generalize (⟨(wtK L (p - j)).toArray⟩ : ByteArray) = A at *
            have hB4 : ¬ (B.size : Int) < 4 := by omega
            have hB6 : (4 : Int) ≤ (B.size : Int) := by omega
            have hB5 : B.size ≤ 4 := by omega
            clear hsq hlt
            have HA := fun w => run_string_add_sum (P := Tryd.prog) w A B (by omega)
            go_wp2
            go_roundw
            case rel => exact ⟨j, by omega, by go_num, by rw [he.out], hq2⟩
            case measure => simp [intOf]
end Go.Proofs.YtmlfkceafkhlaaaDoor
