/- Several texts joined: PdH PcL PdI. -/
import Derived.Test.YtbmcabphjfpkhaaGreatMga
import Derived.Test.YtbmcabphjfpkhaaGreatPcK
import Derived.Test.YtbmcabphjfpkhaaGreatShelf
/- PdH -/
namespace Go.Proofs.YtbmcabphjfpkhaaGreat
set_option linter.all false
open Go.RowKit

theorem genO_GI : ∀ (ds out G : List Nat), GI out → (∀ c ∈ ds, c < 512) → genO out ds = some G → GI G
  | [], out, G, h, _, hg => by unfold genO at hg; rw [← Option.some.inj hg]; exact h
  | c :: ds, out, G, h, hd, hg => by
    unfold genO at hg
    by_cases hc : c ∈ out
    · rw [if_pos hc] at hg
      exact genO_GI ds out G h (fun x hx => hd x (by simp [hx])) hg
    · rw [if_neg hc] at hg
      split at hg
      · rename_i hcond
        rw [Bool.and_eq_true, List.all_eq_true] at hcond
        exact genO_GI ds _ G (h.step (hd c (by simp)) hc (fun e he => Nat.le_of_ble_eq_true (hcond.1 e he)) (Nat.le_of_ble_eq_true hcond.2)) (fun x hx => hd x (by simp [hx])) hg
      · cases hg
theorem grO_GI {L : List Int} {G : List Nat} (hc : ∀ x ∈ L, ClsV x) (ha : ∀ x ∈ L, clB x = true) (h : grO L = some G) : GI G := by
  refine genO_GI _ _ G GI.one (fun c hcm => ?_) h
  obtain ⟨x, hx, rfl⟩ := List.mem_map.1 hcm
  exact (code_of (hc x hx) (ha x hx)).1
/-- the numbers of a group of codes, in order -/
theorem srt_cd {G : List Nat} (h : GI G) : (∀ x ∈ srt (G.map cdV), ClsV x) ∧ (srt (G.map cdV)).length = G.length ∧ 1 ≤ G.length ∧ G.length ≤ 64 := by
  refine ⟨fun x hx => ?_, by rw [(srt_perm _).length_eq, List.length_map], List.length_pos_of_mem h.1.1, h.2.2⟩
  obtain ⟨c, hcm, rfl⟩ := List.mem_map.1 ((srt_perm _).mem_iff.1 hx)
  exact .inl ⟨c, (h.2.1 c hcm).1, rfl⟩
theorem grS_bd {L : List Int} (hc : ∀ x ∈ L, ClsV x) (ha : ∀ x ∈ L, clB x = true) : (∀ x ∈ grS L, ClsV x) ∧ (grS L).length ≤ 64 ∧ ((grO L).isSome = true → 1 ≤ (grS L).length) := by
  cases hg : grO L with
  | none =>
    obtain ⟨h1, _⟩ := grS_none hg
    rw [h1]
    exact ⟨by simp, by simp, by simp⟩
  | some G =>
    obtain ⟨h1, _⟩ := grS_some hg
    rw [h1]
    obtain ⟨a, b, c, d⟩ := srt_cd (grO_GI hc ha hg)
    exact ⟨a, by omega, fun _ => by omega⟩
theorem RdI.tail {w : World} {S : List Int} {g cap : Nat} (h : RdI w (.slice (some ⟨g, 0, none⟩) S.length cap) S) (c : Nat) (a : Option Addr) (ha : S.length ≠ 1 → a = some ⟨g, 1, none⟩) : RdI w (.slice a (S.length - 1) c) (S.drop 1) := by
  obtain ⟨a', cap', e, hf⟩ := h
  injection e with e1 _ _
  refine ⟨a, c, by rw [List.length_drop], fun i hi => ?_⟩
  rw [List.length_drop] at hi
  obtain ⟨g', o', h1, h2, h3⟩ := hf (i + 1) (by omega)
  rw [← e1] at h1
  injection h1 with h1
  injection h1 with h4 h5
  subst h4 h5
  refine ⟨g, 1, ha (by omega), ?_, h3⟩
  rw [List.getElem?_drop, Nat.add_comm 1 i]
  rw [Nat.zero_add] at h2
  exact h2
/-- a list of classes to be read, drawn by a function -/
def RnkL (w : World) (e : Ending) (w' : World) : Prop := ∃ u L, e = .returned u ∧ RdI w' u L ∧ (∀ x ∈ L, ClsV x) ∧ L.length ≤ 66 ∧ Below w.heap.size w w'
theorem clsv_big : ClsV 1000001 := clsv_six (by simp)
set_option maxHeartbeats 2000000 in
theorem d_drawRank (v : Value) (xs : List Int) (w : World) (h : RdB w w.heap.size v xs) : Calls Tryz.prog 16 #[v] w (RnkL w) := by
  have d1 := Dr.make0 h
  have hb0 : Below w.heap.size w (w.alloc (.cells #[v, .int .i64 0, .int .u64 0] 52)) := (Below.refl _ _).alloc (Nat.le_refl _) _
  have HD := Lib.hid (d_drawClassGroup v xs _ (h.later hb0))
  have hsz : (w.alloc (.cells #[v, .int .i64 0, .int .u64 0] 52)).heap.size = w.heap.size + 1 := by simp
  obtain ⟨a0, cap, rfl, _⟩ := h
  go_enter Tryz.func16, Tryz.ntmps16
  go_upto_region 2 with (fail)
  generalize w.alloc _ = W0 at *
  go_wp2_with fail
  refine HD.out.mono ?_
  rintro e w2 ⟨u, L, rfl, hO, hcl, hl, hb2⟩
  have d2 := d1.below hb2
  have hB2 := below_step hb2 hb0.size hb0
  rw [hsz] at hO
  have hR := hO.rd
  have HC := Lib.hid hcl
  have H1 := Lib.hid (c_dsList L 12 u (by omega) hcl w2 hR)
  have HG := Lib.hid (fun (ha : ∀ x ∈ L, clB x = true) W hr => c_dsGroup L u (by omega) hcl ha W hr)
  have HS := Lib.hid (fun (ha : ∀ x ∈ L, clB x = true) => grS_bd hcl ha)
  unfold IntsPost at HG
  generalize grS L = S at *
  generalize (grO L).isSome = ok at *
  obtain ⟨su, cu, rfl, _⟩ := id hO.form
  have hkb : w.heap.size < w.heap.size + 1 := by omega
  have h0b : w.heap.size ≤ w.heap.size + 1 := by omega
  generalize hbe : w.heap.size + 1 = base at hkb h0b hO
  have hbb : base ≤ w.heap.size + 1 := by omega
  clear hbe hcl HD hb2 d1 hb0 hsz
  cases h1 : (L.all clB && inB L.length 1 12)
  · rw [h1] at H1
    go_wp2_with fail
    refine H1.out.mono ?_
    rintro e w3 ⟨rfl, hb3⟩
    have hR3 := hR.below hb3
    have hB3 := below_step hb3 hB2.size hB2
    go_wp2
    go_ret
    exact ⟨_, L, rfl, hR3, HC.out, by omega, hB3⟩
  · rw [h1] at H1
    have ha : ∀ x ∈ L, clB x = true := List.all_eq_true.1 (Bool.and_eq_true_iff.1 h1).1
    obtain ⟨hs1, hs2, hs3⟩ := HS.out ha
    have HGG := Lib.hid (HG.out ha)
    have HS1 := Lib.hid hs1
    clear hs1 HS HG ha h1
    go_wp2_with fail
    refine H1.out.mono ?_
    rintro e w3 ⟨rfl, hb3⟩
    have hO3 := hO.below hb3
    have d3 := d2.below hb3
    clear hO d2 hR hB2 hb3
    obtain ⟨rl, hrow, dr⟩ := d3.addRow hO3 hkb (fun _ hb => (List.not_mem_nil hb).elim) h0b
    clear d3 hO3
    go_wp2_with fail
    refine (d_one dr (by omega) 4 (by omega)).mono ?_
    rintro e w4 ⟨q, rfl, d4⟩
    have hO4 := d4.row hrow
    have hB4 := d4.out
    have hs4 : base ≤ w4.heap.size := by have := d4.ovr.size; have := d4.cur.2.1; omega
    have d5 := d4.right
    clear dr d4 hrow
    cases q
    · go_wp2_with fail
      refine (HGG.out _ hO4.rd).mono ?_
      rintro e w6 ⟨v6, rfl, hO6, hb6⟩
      have hO46 := hO4.below hb6
      have d6 := d5.below hb6
      have hB6 := below_step hb6 hB4.size hB4
      cases ok
      · go_wp2
        go_ret
        exact ⟨_, L, rfl, hO46.rd, HC.out, by omega, hB6⟩
      · have hs31 := hs3 rfl
        have hO7 := hO6.le hs4
        obtain ⟨rl, hrow, dr⟩ := d6.addRow hO7 hkb (fun _ hb => (List.not_mem_nil hb).elim) h0b
        obtain ⟨s6, c6, rfl, hf6⟩ := id hO6.form
        obtain ⟨g6, rfl, _⟩ := hf6 0 (by omega)
        have hcap6 : S.length ≤ c6 := by
          obtain ⟨_, _, e6, hcap6, _⟩ := own_form hO6
          injection e6 with _ _ e6
          omega
        clear hf6 hO6 hO7 d6 hO4 d5 hO46 hs3
        go_wp2_with fail
        refine (d_pick dr (by omega) 8 (by omega)).mono ?_
        rintro e w8 ⟨x, rfl, hx, d8⟩
        have hO8 := d8.row hrow
        have hB8 := d8.out
        clear dr hB6 hB4
        simp only [show ¬ ((8 : Int) ≤ 1) by omega, if_false] at hx
        rcases (by omega : x = 0 ∨ x = 1 ∨ 2 ≤ x) with rfl | rfl | h2
        · have i1 : (1 : Int) ≤ (S.length : Int) := by omega
          have HT := Lib.hid (fun x (hx : x ∈ S.drop 1) => HS1.out x (List.mem_of_mem_drop hx))
          by_cases hc1 : c6 = 1
          · subst hc1
            have hr0 := hO8.rd.tail 0 (some ⟨g6, 0, none⟩) (fun h => by omega)
            rw [show S.length - 1 = 0 by omega] at hr0
            have HR := Lib.hid hr0
            clear hr0
            go_wp2
            go_ret
            exact ⟨_, S.drop 1, rfl, HR.out, HT.out, by simp; omega, hB8⟩
          · have HR := Lib.hid (hO8.rd.tail (c6 - 1) (some ⟨g6, 1, none⟩) (fun _ => rfl))
            go_wp2
            go_ret
            exact ⟨_, S.drop 1, rfl, HR.out, HT.out, by simp; omega, hB8⟩
        · have hs9 : base ≤ w8.heap.size := by have := d8.ovr.size; have := d8.cur.2.1; omega
          have hl9 : S.length < 1000000000000 := by omega
          have HA := Lib.hid (cls_add HS1.out clsv_big)
          go_wp2_with (at_builtin; refine wpList_app_int (y := 1000001) rfl _ _ rfl base _ S rfl hO8 rfl hl9 hs9 ?_; intro v' w30 ho30 hb30 hg30)
          have hB30 := ((d8.right).grow hb30 hkb (fun _ hb => (List.not_mem_nil hb).elim) h0b).out
          go_wp2
          go_ret
          exact ⟨_, _, rfl, ho30.rd, HA.out, by simp; omega, hB30⟩
        · have x0 : (x == 0) = false := by simp; omega
          have x1 : (x == 1) = false := by simp; omega
          go_wp2
          go_ret
          exact ⟨_, S, rfl, hO8.rd, HS1.out, by omega, hB8⟩
    · go_wp2
      go_ret
      exact ⟨_, L, rfl, hO4.rd, HC.out, by omega, hB4⟩
end Go.Proofs.YtbmcabphjfpkhaaGreat

/- PcL -/
namespace Go.Proofs.YtbmcabphjfpkhaaGreat
open Go.RowKit

/-- the rank of a list: how often 2 divides its length, if it is a group -/
noncomputable def rkV (L : List Int) : Int := if gpB L then (Nat.log2 L.length : Nat) else 0
theorem half_pow {k j : Nat} (h : j < k) : ((2 ^ (k - j) : Nat) : Int) / 2 = ((2 ^ (k - (j + 1)) : Nat) : Int) ∧ (1 : Int) < ((2 ^ (k - j) : Nat) : Int) := by
  have e : 2 ^ (k - j) = 2 ^ (k - (j + 1)) * 2 := by rw [← Nat.pow_succ]; congr 1; omega
  have h1 := Nat.two_pow_pos (k - (j + 1))
  omega
set_option maxHeartbeats 1000000 in
theorem c_sRankOfClasses (L : List Int) (v : Value) (hL : L.length ≤ 100) (hc : ∀ x ∈ L, ClsV x) (w : World) (h : RdI w v L) :
    Calls Tryz.prog 14 #[v] w fun e w' => e = .returned (.tuple #[.int .i64 (rkV L), .bool (gpB L)]) ∧ Below w.heap.size w w' := by
  have H0 := Lib.hid (c_dsIsGroup L v hL hc w h)
  have HP := Lib.hid (fun h => gp_pow (L := L) hc h)
  obtain ⟨a, cap, rfl, hf⟩ := h
  clear hf hc
  cases hg : gpB L
  · have hr : rkV L = 0 := by unfold rkV; rw [if_neg (by simp [hg])]
    rw [hg] at H0
    rw [hr]
    go_enter Tryz.func14, Tryz.ntmps14
    go_wp2_with fail
    refine H0.out.mono ?_
    rintro e w1 ⟨rfl, hb1⟩
    go_wp2
    go_ret2
    exact ⟨rfl, hb1⟩
  · obtain ⟨k, hk, hl⟩ := HP.out hg
    have hr : rkV L = (k : Int) := by unfold rkV; rw [if_pos hg, hl, Nat.log2_two_pow]
    have HL := Lib.hid hl
    rw [hg] at H0
    rw [hr]
    clear hr hg HP hl
    go_enter Tryz.func14, Tryz.ntmps14
    go_wp2_with fail
    refine H0.out.mono ?_
    rintro e w1 ⟨rfl, hb1⟩
    go_wp2
    go_loopw [4, 5] (fun r n wr => ∃ j : Nat, j ≤ k ∧ r = .int .i64 j ∧ n = .int .i64 ((2 ^ (k - j) : Nat) : Int) ∧ wr = w1) (fun r _ _ => k - (intOf r).toNat)
    case atStart => exact ⟨0, Nat.zero_le _, rfl, by rw [HL.out]; rfl, rfl⟩
    case round =>
      obtain ⟨j, hj, rfl, rfl, rfl⟩ := hrel
      by_cases hlt : j < k
      · obtain ⟨h1, h2⟩ := half_pow hlt
        have h3 : ((2 ^ (k - j) : Nat) : Int) ≤ 64 := by
          have h4 : 2 ^ (k - j) ≤ 2 ^ 6 := Nat.pow_le_pow_right (by omega) (by omega)
          have h5 : 2 ^ 6 = 64 := by decide
          omega
        have H1 := Lib.hid h1
        clear h1
        generalize ((2 ^ (k - j) : Nat) : Int) = n at *
        go_wp2
        go_roundw
        case rel => exact ⟨j + 1, by omega, by go_num, by rw [H1.out], trivial⟩
        case measure => simp [intOf]; omega
      · obtain rfl : j = k := by omega
        rw [Nat.sub_self]
        go_wp2
        go_ret2
        exact ⟨rfl, hb1⟩
theorem bit_pow {k : Nat} (h : k ≤ 6) : Lib.bitLen (2 ^ k) = (k : Int) + 1 := by
  rcases (by omega : k = 0 ∨ k = 1 ∨ k = 2 ∨ k = 3 ∨ k = 4 ∨ k = 5 ∨ k = 6) with rfl | rfl | rfl | rfl | rfl | rfl | rfl <;> decide
set_option maxHeartbeats 1000000 in
theorem c_iRankOfClasses (L : List Int) (v : Value) (hL : L.length ≤ 100) (hc : ∀ x ∈ L, ClsV x) (w : World) (h : RdI w v L) :
    Calls Tryz.prog 13 #[v] w fun e w' => e = .returned (.tuple #[.int .i64 (rkV L), .bool (gpB L)]) ∧ Below w.heap.size w w' := by
  have H0 := Lib.hid (c_isClassGroup L v hL hc w h)
  have HP := Lib.hid (fun h => gp_pow (L := L) hc h)
  obtain ⟨a, cap, rfl, hf⟩ := h
  clear hf hc
  cases hg : gpB L
  · have hr : rkV L = 0 := by unfold rkV; rw [if_neg (by simp [hg])]
    rw [hg] at H0
    rw [hr]
    go_enter Tryz.func13, Tryz.ntmps13
    go_wp2_with fail
    refine H0.out.mono ?_
    rintro e w1 ⟨rfl, hb1⟩
    go_wp2
    go_ret2
    exact ⟨rfl, hb1⟩
  · obtain ⟨k, hk, hl⟩ := HP.out hg
    have hr : rkV L = (k : Int) := by unfold rkV; rw [if_pos hg, hl, Nat.log2_two_pow]
    have HB : Hid (∀ W, Calls Tryz.prog 37 #[.int .u64 (L.length : Int)] W fun e w' => e = .returned (.int .i64 ((k : Int) + 1)) ∧ w' = W) := Lib.hid fun W => by
      have h9 := Tryz.bits_Len (L.length : Int) W (by omega) (by omega)
      rw [Int.toNat_natCast, hl, bit_pow hk, ← hl] at h9
      exact h9
    have hcv : (L.length : Int) % 18446744073709551616 = (L.length : Int) := Int.emod_eq_of_lt (by omega) (by omega)
    rw [hg] at H0
    rw [hr]
    clear hr hg HP hl
    go_enter Tryz.func13, Tryz.ntmps13
    go_wp2_with fail
    refine H0.out.mono ?_
    rintro e w1 ⟨rfl, hb1⟩
    go_wp2_with fail
    refine (HB.out _).mono ?_
    rintro e w2 ⟨rfl, rfl⟩
    go_wp2
    go_ret2
    exact ⟨by simp, hb1⟩
end Go.Proofs.YtbmcabphjfpkhaaGreat

/- PdI -/
namespace Go.Proofs.YtbmcabphjfpkhaaGreat
set_option linter.all false

theorem pp_law {d e : Int} (hd : ClsV d) (he : ClsV e) (h : ppB d e = true) : ∃ x, x < 512 ∧ cdN x ≤ 1000000 ∧ ppV d e = cdV x ∧ ppB (cdV x) e = true ∧ ppV (cdV x) e = d ∧ ppB e d = true ∧ ppV e d = cdV x := by
  have h0 := h
  unfold ppB at h
  rw [Bool.and_eq_true, Bool.and_eq_true, decide_eq_true_eq] at h
  obtain ⟨h1, h2, h3⟩ := h
  obtain ⟨x1, x2, x3⟩ := code_of hd h1
  obtain ⟨y1, y2, y3⟩ := code_of he h2
  have hz := xor_lt x1 y1
  have e1 : ppV d e = cdV (codeOf d ^^^ codeOf e) := by unfold ppV; rw [if_pos h0]
  have e2 : (codeOf d ^^^ codeOf e) ^^^ codeOf e = codeOf d := by rw [Nat.xor_assoc, Nat.xor_self, Nat.xor_zero]
  have e3 : codeOf e ^^^ codeOf d = codeOf d ^^^ codeOf e := Nat.xor_comm _ _
  have b1 : ppB (cdV (codeOf d ^^^ codeOf e)) e = true := by
    unfold ppB
    rw [clB_cd hz, h2, code_cd hz, e2, Bool.and_eq_true, Bool.and_eq_true, decide_eq_true_eq, decide_eq_true_eq]
    exact ⟨h3, rfl, x3⟩
  have b2 : ppB e d = true := by
    unfold ppB
    rw [h1, h2, e3, Bool.and_eq_true, Bool.and_eq_true, decide_eq_true_eq]
    exact ⟨rfl, rfl, h3⟩
  refine ⟨_, hz, h3, e1, b1, ?_, b2, ?_⟩
  · unfold ppV
    rw [if_pos b1, code_cd hz, e2]
    exact x2.symm
  · unfold ppV
    rw [if_pos b2, e3]
theorem ris_of {L : List Int} (h : L.Pairwise (· < ·)) : risB L = true := by
  unfold risB
  rw [List.all_eq_true]
  intro k hk
  have hk' : k < L.length := by simpa using hk
  unfold risAt
  rw [Bool.or_eq_true, beq_iff_eq, decide_eq_true_eq]
  rcases Nat.eq_zero_or_pos k with h0 | h0
  · exact .inl h0
  · refine .inr ?_
    rw [List.getElem?_eq_getElem hk', List.getElem?_eq_getElem (show k - 1 < L.length by omega)]
    exact List.pairwise_iff_getElem.1 h (k - 1) k (by omega) hk' (by omega)
theorem grp_law {L : List Int} (hc : ∀ x ∈ L, ClsV x) (h : cgO L = true) :
    ∃ i : Nat, gpB (cgL L) = true ∧ rkV (cgL L) = (i : Int) ∧ (cgL L).length = 2 ^ i ∧ i ≤ L.length ∧ i ≤ 6 ∧ hasB 1 (cgL L) = true ∧ ∀ x ∈ L, hasB x (cgL L) = true := by
  unfold cgO at h
  rw [Bool.and_eq_true] at h
  obtain ⟨hb, hs⟩ := h
  obtain ⟨hl, _⟩ := cg_yes hb
  unfold cgB at hb
  rw [Bool.and_eq_true] at hb
  have ha : ∀ x ∈ L, clB x = true := List.all_eq_true.1 hb.1
  cases hg : grO L with
  | none => rw [hg] at hs; cases hs
  | some G =>
    obtain ⟨hS, _⟩ := grS_some hg
    have hGI := grO_GI hc ha hg
    have hgen : G = genC [0] (L.map codeOf) := genO_gen _ _ _ hg
    obtain ⟨_, ⟨i, hi1, hi2⟩, hm1, hm2⟩ := gen_grp (L.map codeOf) [0] 0 Grp.one rfl
    rw [← hgen] at hi1 hm1 hm2
    rw [List.length_map, Nat.zero_add] at hi2
    rw [hl, hS]
    have hmem : ∀ c, c ∈ G → cdV c ∈ srt (G.map cdV) := fun c hcm => (srt_perm _).mem_iff.2 (List.mem_map.2 ⟨c, hcm, rfl⟩)
    have hof : ∀ x ∈ srt (G.map cdV), ∃ c, c ∈ G ∧ cdV c = x := fun x hx => List.mem_map.1 ((srt_perm _).mem_iff.1 hx)
    have hlen : (srt (G.map cdV)).length = 2 ^ i := by rw [(srt_perm _).length_eq, List.length_map, hi1]
    have h64 := hGI.2.2
    have hpos := Nat.two_pow_pos i
    have h1 : hasB 1 (srt (G.map cdV)) = true := by
      rw [has_mem, ← cd_one]
      exact hmem 0 hGI.1.1
    have hgp : gpB (srt (G.map cdV)) = true := by
      refine gp6 ?_ h1 ?_ (ris_of (srt_lt (cdV_nodup hGI.1.2.2 fun x hx => (hGI.2.1 x hx).1))) ?_
      · have hl1 : 1 ≤ (srt (G.map cdV)).length ∧ (srt (G.map cdV)).length ≤ 64 := by rw [hlen, ← hi1]; exact ⟨by rw [hi1]; exact hpos, h64⟩
        unfold inB
        simp
        omega
      · rw [List.all_eq_true]
        intro x hx
        obtain ⟨c, hcm, rfl⟩ := hof x hx
        rw [clB_cd (hGI.2.1 c hcm).1, decide_eq_true_eq]
        exact (hGI.2.1 c hcm).2
      · unfold mulsB
        rw [List.all_eq_true]
        intro x hx
        rw [List.all_eq_true]
        intro y hy
        obtain ⟨c, hcm, rfl⟩ := hof x hx
        obtain ⟨d, hdm, rfl⟩ := hof y hy
        unfold mulAt
        rw [code_cd (hGI.2.1 c hcm).1, code_cd (hGI.2.1 d hdm).1, has_mem]
        exact hmem _ (hGI.1.2.1 c hcm d hdm)
    refine ⟨i, hgp, ?_, hlen, hi2, ?_, h1, fun x hx => ?_⟩
    · unfold rkV
      rw [if_pos hgp, hlen, Nat.log2_two_pow]
    · rcases Nat.lt_or_ge 6 i with h3 | h3
      · exfalso
        have := Nat.pow_le_pow_right (show 0 < 2 by omega) (show 7 ≤ i by omega)
        have h7 : 2 ^ 7 = 128 := by decide
        omega
      · exact h3
    · obtain ⟨_, hxe, _⟩ := code_of (hc x hx) (ha x hx)
      rw [has_mem, hxe]
      exact hmem _ (hm2 _ (List.mem_map.2 ⟨x, hx, rfl⟩))
/-- the rank of any list of drawn numbers, and its size -/
theorem rk_law {L : List Int} (hc : ∀ x ∈ L, ClsV x) (h : gpB L = true) : ∃ i : Nat, rkV L = (i : Int) ∧ L.length = 2 ^ i ∧ i ≤ 6 := by
  obtain ⟨k, hk, hl⟩ := gp_pow hc h
  refine ⟨k, ?_, hl, hk⟩
  unfold rkV
  rw [if_pos h, hl, Nat.log2_two_pow]
theorem rk_no {L : List Int} (h : gpB L = false) : rkV L = 0 := by unfold rkV; rw [if_neg (by simp [h])]
/-- lists of classes that are answered are short and hold classes -/
theorem cg_bd {L : List Int} (hc : ∀ x ∈ L, ClsV x) : (∀ x ∈ cgL L, ClsV x) ∧ (cgL L).length ≤ 64 := by
  cases hb : cgB L
  · rw [(cg_no hb).1]; exact ⟨by simp, by simp⟩
  · rw [(cg_yes hb).1]
    have ha : ∀ x ∈ L, clB x = true := by
      unfold cgB at hb
      rw [Bool.and_eq_true] at hb
      exact List.all_eq_true.1 hb.1
    obtain ⟨h1, h2, _⟩ := grS_bd hc ha
    exact ⟨h1, h2⟩
end Go.Proofs.YtbmcabphjfpkhaaGreat
