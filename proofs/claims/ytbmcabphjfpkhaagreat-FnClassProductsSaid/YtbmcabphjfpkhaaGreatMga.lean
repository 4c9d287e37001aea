/- Several texts joined: PdB PdC PdE PdG. -/
import Derived.Test.YtbmcabphjfpkhaaGreatPcN
import Derived.Test.YtbmcabphjfpkhaaGreatPcX
import Derived.Test.YtbmcabphjfpkhaaGreatPcI
import Derived.Test.YtbmcabphjfpkhaaGreatPcD
/- PdB -/
namespace Go.Proofs.YtbmcabphjfpkhaaGreat
set_option linter.all false

/-- a group of small codes, not too large -/
def GI (G : List Nat) : Prop := Grp G ∧ (∀ x ∈ G, x < 512 ∧ cdN x ≤ 1000000) ∧ G.length ≤ 64
theorem GI.one : GI [0] := ⟨Grp.one, fun x hx => by
  rw [List.mem_singleton] at hx
  subst hx
  exact ⟨by omega, by decide +kernel⟩, by simp⟩
theorem GI.step {G : List Nat} {c : Nat} (h : GI G) (hc : c < 512) (hn : c ∉ G) (ha : ∀ e ∈ G, cdN (c ^^^ e) ≤ 1000000) (hl : 2 * G.length ≤ 64) : GI (G ++ G.map (c ^^^ ·)) := by
  refine ⟨h.1.step hn, fun x hx => ?_, by rw [List.length_append, List.length_map]; omega⟩
  rw [List.mem_append, List.mem_map] at hx
  rcases hx with hx | ⟨e, he, rfl⟩
  · exact h.2.1 x hx
  · exact ⟨xor_lt hc (h.2.1 e he).1, ha e he⟩
theorem genO_in {G ds : List Nat} {c : Nat} (h : c ∈ G) : genO G (c :: ds) = genO G ds := by
  rw [genO, if_pos h]
theorem genO_go {G ds : List Nat} {c : Nat} (hn : c ∉ G) (ha : ∀ e ∈ G, cdN (c ^^^ e) ≤ 1000000) (hl : 2 * G.length ≤ 64) : genO G (c :: ds) = genO (G ++ G.map (c ^^^ ·)) ds := by
  rw [genO, if_neg hn, if_pos]
  rw [Bool.and_eq_true, List.all_eq_true]
  exact ⟨fun e he => Nat.ble_eq_true_of_le (ha e he), Nat.ble_eq_true_of_le hl⟩
theorem genO_bad {G ds : List Nat} {c e : Nat} (hn : c ∉ G) (he : e ∈ G) (hb : ¬ cdN (c ^^^ e) ≤ 1000000) : genO G (c :: ds) = none := by
  rw [genO, if_neg hn, if_neg]
  rw [Bool.and_eq_true, List.all_eq_true]
  exact fun h => hb (Nat.le_of_ble_eq_true (h.1 e he))
theorem genO_big {G ds : List Nat} {c : Nat} (hn : c ∉ G) (hb : 64 < 2 * G.length) : genO G (c :: ds) = none := by
  rw [genO, if_neg hn, if_neg]
  rw [Bool.and_eq_true]
  exact fun h => by have := Nat.le_of_ble_eq_true h.2; omega
/-- the codes of the least group with some classes, if it is made -/
noncomputable def grO (L : List Int) : Option (List Nat) := genO [0] (L.map codeOf)
/-- its numbers, in order -/
noncomputable def grS (L : List Int) : List Int := match grO L with | some G => srt (G.map cdV) | none => []
theorem grS_none {L : List Int} (h : grO L = none) : grS L = [] ∧ (grO L).isSome = false := by unfold grS; rw [h]; exact ⟨rfl, rfl⟩
theorem grS_some {L : List Int} {G : List Nat} (h : grO L = some G) : grS L = srt (G.map cdV) ∧ (grO L).isSome = true := by unfold grS; rw [h]; exact ⟨rfl, rfl⟩
theorem has_code {G : List Nat} (hG : ∀ x ∈ G, x < 512) {c : Nat} (hc : c < 512) : hasB (cdV c) (G.map cdV) = decide (c ∈ G) := by
  rw [Bool.eq_iff_iff, has_mem, decide_eq_true_eq, List.mem_map]
  constructor
  · rintro ⟨x, hx, he⟩
    rwa [← cd_inj (hG x hx) hc he]
  · intro h; exact ⟨c, h, rfl⟩
/-- the product with a code's number -/
noncomputable def mulC (c : Nat) (e : Int) : Int := cdV (c ^^^ codeOf e)
theorem mulC_cd (c : Nat) {x : Nat} (hx : x < 512) : mulC c (cdV x) = cdV (c ^^^ x) := by unfold mulC; rw [code_cd hx]
theorem mulC_map {G : List Nat} (hG : ∀ x ∈ G, x < 512) (c : Nat) : (G.map cdV).map (mulC c) = (G.map (c ^^^ ·)).map cdV := by
  rw [List.map_map, List.map_map]
  exact List.map_congr_left fun x hx => mulC_cd c (hG x hx)
theorem cdV_nodup {G : List Nat} (h : G.Nodup) (hG : ∀ x ∈ G, x < 512) : (G.map cdV).Nodup := by
  unfold List.Nodup at *
  rw [List.pairwise_map]
  exact List.Pairwise.imp_of_mem (fun hx hy hne he => hne (cd_inj (hG _ hx) (hG _ hy) he)) h
theorem mul_nodup {G : List Nat} {c : Nat} (h : GI G) (hc : c < 512) (hn : c ∉ G) : (G.map cdV ++ (G.map cdV).map (mulC c)).Nodup := by
  rw [mulC_map (fun x hx => (h.2.1 x hx).1), ← List.map_append]
  refine cdV_nodup (h.1.step hn).2.2 fun x hx => ?_
  rw [List.mem_append, List.mem_map] at hx
  rcases hx with hx | ⟨e, he, rfl⟩
  · exact (h.2.1 x hx).1
  · exact xor_lt hc (h.2.1 e he).1
/-- a number of the group, and its product -/
theorem mem_code {G : List Nat} (h : GI G) {e : Int} (he : e ∈ G.map cdV) : codeOf e ∈ G ∧ codeOf e < 512 ∧ cdN (codeOf e) ≤ 1000000 ∧ e = cdV (codeOf e) := by
  obtain ⟨x, hx, rfl⟩ := List.mem_map.1 he
  have h1 := h.2.1 x hx
  rw [code_cd h1.1]
  exact ⟨hx, h1.1, h1.2, rfl⟩
theorem drop_next {L : List Int} {k : Nat} (h : k < L.length) : L.drop k = L[k]?.getD 0 :: L.drop (k + 1) := by
  rw [List.drop_eq_getElem_cons h, List.getElem?_eq_getElem h]; rfl
end Go.Proofs.YtbmcabphjfpkhaaGreat

/- PdC -/
namespace Go.Proofs.YtbmcabphjfpkhaaGreat
set_option linter.all false
open Go.RowKit

set_option maxHeartbeats 2000000 in
theorem c_classGroup (L : List Int) (v : Value) (hL : L.length ≤ 100) (hc : ∀ x ∈ L, ClsV x) (ha : ∀ x ∈ L, clB x = true) (w : World) (h : RdI w v L) :
    Calls Tryz.prog 33 #[v] w (IntsPost w (grS L) (grO L).isSome) := by
  have HA := Lib.hid (fun x hx => code_of (hc x hx) (ha x hx))
  obtain ⟨a, cap, rfl, hf⟩ := h
  have HF := Lib.hid hf
  have hO := OwnsI.one w 1
  have hb0 : Below w.heap.size w (w.alloc (.cells #[.int .i64 1] 3)) := (Below.refl _ _).alloc (Nat.le_refl _) _
  have H0 := Lib.hid (@grS_none L)
  have H1 := Lib.hid (fun G => @grS_some L G)
  have HG0 : Hid (genO [0] (L.map codeOf) = grO L) := rfl
  unfold IntsPost
  generalize grS L = R at *
  generalize grO L = O at *
  generalize hbO : O.isSome = bO at *
  clear hbO hf hc ha
  have hm1 : ([0] : List Nat).map cdV = [1] := by rw [List.map_cons, List.map_nil, cd_one]
  go_enter Tryz.func33, Tryz.ntmps33
  go_wp2
  go_loopw [4, 14] (fun o i wr => ∃ (k : Nat) (G : List Nat), k ≤ L.length ∧ i = .int .i64 k ∧ OwnsI wr w.heap.size o (G.map cdV) ∧ Below w.heap.size w wr ∧ Hid (GI G ∧ genO G ((L.drop k).map codeOf) = O)) (fun _ i _ => L.length - (intOf i).toNat)
  case atStart => exact ⟨0, [0], Nat.zero_le _, rfl, by rw [hm1]; exact hO, hb0, Lib.hid ⟨GI.one, HG0.out⟩⟩
  case round =>
    clear hO hb0 hm1 HG0
    obtain ⟨k, G, hk, rfl, hO, hb, HI⟩ := hrel
    by_cases hlt : k < L.length
    · obtain ⟨g, o, rfl, q, hg⟩ := HF.out k hlt
      replace q := (hb.cell (p := ⟨g, o + k, none⟩) hg).trans q
      have i0 : (k : Int) < (L.length : Int) := by omega
      obtain ⟨x1, x2, x3⟩ := HA.out _ (getD_mem L hlt)
      obtain ⟨hGI, hGO⟩ := HI.out
      rw [drop_next hlt, List.map_cons] at hGO
      rw [x2] at q
      generalize codeOf (L[k]?.getD 0) = c at *
      clear x2 HI
      have hGl : ∀ x ∈ G, x < 512 := fun x hx => (hGI.2.1 x hx).1
      have hSl : (G.map cdV).length ≤ 64 := by rw [List.length_map]; exact hGI.2.2
      have hC := fun (W : World) v (hr : RdI W v (G.map cdV)) => c_containsI (G.map cdV) (cdV c) v (by omega) W hr
      rw [has_code hGl x1] at hC
      by_cases hin : c ∈ G
      · rw [decide_eq_true hin] at hC
        have HS := Lib.hid (And.intro hGI ((genO_in hin).symm.trans hGO))
        have HC := Lib.hid hC
        clear hin hC hGO hGI hGl x1 x3
        generalize cdV c = d at *
        go_wp2_with fail
        refine (HC.out _ _ hO.rd).mono ?_
        rintro e w1 ⟨rfl, kd, rfl⟩
        have hO1 := hO.below (below_drewN (Below.refl _ _) kd)
        have hb1 := below_drewN hb kd
        go_wp2
        go_roundw
        case rel => exact ⟨k + 1, G, by omega, by go_num, hO1, hb1, HS⟩
        case measure => simp [intOf]; omega
      · rw [decide_eq_false hin] at hC
        have hz := hb.size
        have HC := Lib.hid hC
        have HPr : Hid (∀ e, e ∈ G.map cdV → ∃ ok : Bool, decide (cdN (c ^^^ codeOf e) ≤ 1000000) = ok ∧ (∀ W, Calls Tryz.prog 25 #[.int .i64 (cdV c), .int .i64 e] W fun en w' => en = .returned (.tuple #[.int .i64 (if ok then mulC c e else 0), .bool ok]) ∧ Below W.heap.size W w') ∧ (ok = false → O = none)) := Lib.hid fun e he => by
          obtain ⟨m1, m2, m3, m4⟩ := mem_code hGI he
          refine ⟨_, rfl, fun W => ?_, fun hno => ?_⟩
          · have := c_productClass c (codeOf e) x1 m2 x3 m3 W
            rw [← m4] at this
            exact this
          · rw [← hGO]
            exact genO_bad hin m1 (by simpa using hno)
        have HB : Hid (64 < 2 * (G.map cdV).length → O = none) := Lib.hid fun hbig => by
          rw [← hGO]
          exact genO_big hin (by rw [List.length_map] at hbig; exact hbig)
        have HE : Hid ((∀ j, j < (G.map cdV).length → decide (cdN (c ^^^ codeOf ((G.map cdV)[j]?.getD 0)) ≤ 1000000) = true) → 2 * (G.map cdV).length ≤ 64 → ∃ G', GI G' ∧ genO G' ((L.drop (k + 1)).map codeOf) = O ∧ G'.map cdV = G.map cdV ++ (G.map cdV).map (mulC c)) := Lib.hid fun hall hl => by
          have hal : ∀ e ∈ G, cdN (c ^^^ e) ≤ 1000000 := fun e he => by
            obtain ⟨j, hj, hje⟩ := List.getElem_of_mem he
            have h9 := hall j (by rw [List.length_map]; exact hj)
            rw [List.getElem?_map, List.getElem?_eq_getElem hj, hje] at h9
            have h8 : ((Option.map cdV (some e)).getD 0) = cdV e := rfl
            rw [h8, code_cd (hGl e he), decide_eq_true_eq] at h9
            exact h9
          have hl' : 2 * G.length ≤ 64 := by rw [List.length_map] at hl; exact hl
          refine ⟨_, hGI.step x1 hin hal hl', ?_, ?_⟩
          · rw [← genO_go hin hal hl']; exact hGO
          · rw [List.map_append, mulC_map hGl]
        have hne : G.map cdV ≠ [] := fun h => by
          have := hGI.1.1
          rw [List.map_eq_nil_iff] at h
          rw [h] at this
          simp at this
        have HNE := Lib.hid hne
        clear hne hin hC hGO hGI hGl x1 x3
        generalize G.map cdV = S at *
        generalize cdV c = d at *
        go_wp2_with fail
        refine (HC.out _ _ hO.rd).mono ?_
        rintro e w1 ⟨rfl, kd, rfl⟩
        have hO1 := hO.below (below_drewN (Below.refl _ _) kd)
        have hb1 := below_drewN hb kd
        clear hO hb
        generalize wr.drewN kd = wd at *
        go_wp2_with fail
        refine (c_cloneI _ S HNE.out (by omega) _ hO1.rd).mono ?_
        rintro e w2 ⟨vc, rfl, hoc, hb2⟩
        have hO2 := hO1.below hb2
        have hC2 : Apt w2 vc S _ := Apt.own (b := w.heap.size) hoc (fun g hg => hO1.lt g hg)
        have hb3 := below_step hb2 hb1.size hb1
        obtain ⟨ac, capc, rfl, _⟩ := id hoc.form
        clear hoc hO1 hb2 hb1 HC HNE
        go_wp2
        go_loopw [4, 24] (fun o j wr => ∃ (i : Nat), i ≤ S.length ∧ j = .int .i64 i ∧ OwnsI wr w.heap.size o (S ++ (S.take i).map (mulC c)) ∧ Apt wr (.slice ac S.length capc) S o ∧ Below w.heap.size w wr ∧ S.length + i ≤ 64 ∧ Hid (∀ j, j < i → decide (cdN (c ^^^ codeOf (S[j]?.getD 0)) ≤ 1000000) = true)) (fun _ j _ => S.length - (intOf j).toNat)
        case atStart => exact ⟨0, Nat.zero_le _, rfl, by simpa using hO2, hC2, hb3, by omega, Lib.hid fun j hj => by omega⟩
        case round =>
          clear hO2 hC2 hb3
          obtain ⟨i, hi, rfl, hO, hC, hb, h64, HK⟩ := hrel
          have hz := hb.size
          by_cases hl2 : i < S.length
          · obtain ⟨a4, cap4, f3, hq⟩ := hC.1
            obtain ⟨g5, o5, rfl, q5, _⟩ := hq i hl2
            injection f3 with f4 f5 f6
            subst f4
            clear hq f5 f6
            have hlenx : (S ++ (S.take i).map (mulC c)).length = S.length + i := by
              rw [List.length_append, List.length_map, List.length_take]; omega
            have HN : Hid (S ++ (S.take (i + 1)).map (mulC c) = (S ++ (S.take i).map (mulC c)) ++ [mulC c (S[i]?.getD 0)]) := Lib.hid (by rw [take_next hl2, List.map_append, ← List.append_assoc]; rfl)
            obtain ⟨ok, hok, hcall, hno⟩ := HPr.out _ (getD_mem S hl2)
            have HK2 : Hid (ok = true → ∀ j, j < i + 1 → decide (cdN (c ^^^ codeOf (S[j]?.getD 0)) ≤ 1000000) = true) := Lib.hid fun ht j hj => by
              rcases Nat.lt_or_ge j i with h9 | h9
              · exact HK.out j h9
              · obtain rfl : j = i := by omega
                rw [hok, ht]
            have HCL := Lib.hid hcall
            have HNO := Lib.hid hno
            clear hcall hno HK hok
            have j0 : (i : Int) < (S.length : Int) := by omega
            generalize hM : S ++ (S.take i).map (mulC c) = M at *
            clear hM
            generalize mulC c (S[i]?.getD 0) = y at *
            generalize S[i]?.getD 0 = ee at *
            cases ok
            · obtain ⟨rfl, rfl⟩ := H0.out (HNO.out rfl)
              go_wp2_with fail
              refine (HCL.out _).mono ?_
              rintro e w4 ⟨rfl, hb4⟩
              have hb5 := below_step hb4 hz hb
              go_wp2
              go_ret2
              exact ⟨_, rfl, OwnsI.nil _ _, hb5⟩
            · by_cases hbig : S.length + i = 64
              · obtain ⟨rfl, rfl⟩ := H0.out (HB.out (by omega))
                have hMl : (M.length : Int) = 64 := by omega
                clear hlenx
                obtain ⟨am, capm, rfl, _⟩ := id hO.form
                go_wp2_with fail
                refine (HCL.out _).mono ?_
                rintro e w4 ⟨rfl, hb4⟩
                have hb5 := below_step hb4 hz hb
                go_wp2
                go_ret2
                exact ⟨_, rfl, OwnsI.nil _ _, hb5⟩
              · obtain ⟨am, capm, rfl, _⟩ := id hO.form
                have hMl : ((M.length : Int) == 64) = false := by simp; omega
                have hMl2 : M.length < 1000000000000 := by omega
                clear hlenx
                go_wp2_with fail
                refine (HCL.out _).mono ?_
                rintro e w4 ⟨rfl, hb4⟩
                have hO4 := hO.below hb4
                have hC4 := hC.below hb4
                have hb5 := below_step hb4 hz hb
                have hz5 := hb5.size
                rw [if_pos True.intro]
                go_wp2_with (at_builtin; refine wpList_app_int2 (y := y) rfl _ _ rfl w.heap.size _ M rfl hO4 rfl hMl2 hz5 ?_; intro v6 w6 hO6 hb6 hg6 hv6; have hC6 := hC4.app hg6 hv6; have hB6 := hb5.trans hb6)
                go_wp2
                go_roundw
                case rel => exact ⟨i + 1, by omega, by go_num, by rw [HN.out]; exact hO6, hC6, hB6, by omega, Lib.hid (HK2.out (by trivial))⟩
                case measure => simp [intOf]; omega
          · obtain rfl : i = S.length := by omega
            rw [List.take_length] at hO
            obtain ⟨G', hG1, hG2, hG3⟩ := HE.out HK.out (by omega)
            rw [← hG3] at hO
            have HS := Lib.hid (And.intro hG1 hG2)
            clear hG1 hG2 hG3
            go_wp2
            go_roundw
            case rel => exact ⟨k + 1, G', by omega, by go_num, hO, hb, HS⟩
            case measure => simp [intOf]; omega
    · obtain rfl : k = L.length := by omega
      obtain ⟨hGI, hGO⟩ := HI.out
      rw [List.drop_length, List.map_nil, genO] at hGO
      obtain ⟨rfl, rfl⟩ := H1.out _ hGO.symm
      have hne : 1 ≤ (G.map cdV).length := by
        rw [List.length_map]
        exact List.length_pos_of_mem hGI.1.1
      have hSl : (G.map cdV).length ≤ 64 := by rw [List.length_map]; exact hGI.2.2
      have hz := hb.size
      clear HI hGI hGO
      generalize hS : G.map cdV = S at *
      go_wp2_with fail
      refine (c_sortI w.heap.size _ S (by omega) _ hO).mono ?_
      rintro e w2 ⟨rfl, hO2, hg2⟩
      have hb2 : Below w.heap.size w w2 := hb.grown hg2 hz (fun g hg => (hO.lt g hg).1)
      go_wp2
      go_ret2
      exact ⟨_, rfl, by rw [hS]; exact hO2, hb2⟩
/-- is a group asked for -/
def cgB (L : List Int) : Bool := L.all clB && inB L.length 1 12
noncomputable def cgL (L : List Int) : List Int := if cgB L then grS L else []
noncomputable def cgO (L : List Int) : Bool := cgB L && (grO L).isSome
theorem cg_no {L : List Int} (h : cgB L = false) : cgL L = [] ∧ cgO L = false := by unfold cgL cgO; rw [h]; exact ⟨rfl, rfl⟩
theorem cg_yes {L : List Int} (h : cgB L = true) : cgL L = grS L ∧ cgO L = (grO L).isSome := by unfold cgL cgO; rw [h]; exact ⟨rfl, rfl⟩
theorem cgall_step (L : List Int) {k : Nat} (h : k < L.length) : (L.take (k + 1)).all clB = ((L.take k).all clB && clB (L[k]?.getD 0)) := by
  rw [take_next h, List.all_append]; simp
theorem cgall_no (L : List Int) {k : Nat} (h : k < L.length) (hn : clB (L[k]?.getD 0) = false) : L.all clB = false := by
  rw [List.all_eq_false]
  exact ⟨_, getD_mem L h, by simp [hn]⟩
set_option maxHeartbeats 1000000 in
theorem c_iClassGroup (L : List Int) (v : Value) (hL : L.length ≤ 100) (hc : ∀ x ∈ L, ClsV x) (w : World) (h : RdI w v L) :
    Calls Tryz.prog 10 #[v] w (IntsPost w (cgL L) (cgO L)) := by
  have hR := h
  obtain ⟨a, cap, rfl, hf⟩ := h
  have HF := Lib.hid hf
  have HC := Lib.hid (fun (k : Nat) (hk : k < L.length) W => c_isClass _ (hc _ (getD_mem L hk)) W)
  have HN := Lib.hid (@cg_no L)
  have HY := Lib.hid (@cg_yes L)
  have HG := Lib.hid (fun (ha : L.all clB = true) (W : World) (hb : Below w.heap.size w W) => c_classGroup L _ hL hc (List.all_eq_true.1 ha) W (hR.below hb))
  unfold IntsPost at *
  generalize cgL L = R at *
  generalize cgO L = b at *
  generalize grS L = S at *
  generalize (grO L).isSome = o at *
  clear hf hc hR
  cases h1 : inB L.length 1 12
  · obtain ⟨rfl, rfl⟩ := HN.out (by unfold cgB; rw [h1, Bool.and_false])
    have H1 := Lib.hid (fun W => (c_inside L.length 1 12 W).mono fun e w' (h : _ ∧ _) => (⟨h.1.trans (by rw [h1]), h.2⟩ : e = .returned (.bool false) ∧ W = w'))
    go_enter Tryz.func10, Tryz.ntmps10
    go_wp2_with ((go_at_call 28; refine (H1.out _).mono ?_; rintro e w' ⟨rfl, rfl⟩))
    go_ret2
    exact ⟨_, rfl, OwnsI.nil _ _, Below.refl _ _⟩
  · have H1 := Lib.hid (fun W => (c_inside L.length 1 12 W).mono fun e w' (h : _ ∧ _) => (⟨h.1.trans (by rw [h1]), h.2⟩ : e = .returned (.bool true) ∧ W = w'))
    go_enter Tryz.func10, Tryz.ntmps10
    go_wp2_with ((go_at_call 28; refine (H1.out _).mono ?_; rintro e w' ⟨rfl, rfl⟩))
    go_loopw [12] (fun i wr => ∃ k : Nat, k ≤ L.length ∧ i = .int .i64 k ∧ Below w.heap.size w wr ∧ Hid ((L.take k).all clB = true)) (fun i _ => L.length - (intOf i).toNat)
    case atStart => exact ⟨0, Nat.zero_le _, rfl, Below.refl _ _, Lib.hid rfl⟩
    case round =>
      obtain ⟨k, hk, rfl, hb, HA⟩ := hrel
      by_cases hlt : k < L.length
      · obtain ⟨g, o', rfl, q, hg⟩ := HF.out k hlt
        replace q := (hb.cell (p := ⟨g, o' + k, none⟩) hg).trans q
        have i0 : (k : Int) < (L.length : Int) := by omega
        have hz := hb.size
        have HCC := Lib.hid (HC.out _ hlt)
        have HS := Lib.hid (cgall_step L hlt)
        have HX := Lib.hid (cgall_no L hlt)
        generalize L[k]?.getD 0 = d at *
        cases hd : clB d
        · obtain ⟨rfl, rfl⟩ := HN.out (by unfold cgB; rw [HX.out hd, Bool.false_and])
          rw [hd] at HCC
          go_wp2_with fail
          refine (HCC.out _).mono ?_
          rintro e w1 ⟨rfl, hb1⟩
          have hb2 := below_step hb1 hz hb
          go_wp2
          go_ret2
          exact ⟨_, rfl, OwnsI.nil _ _, hb2⟩
        · have HA2 : Hid ((L.take (k + 1)).all clB = true) := Lib.hid (by rw [HS.out, HA.out, hd]; rfl)
          clear HA
          rw [hd] at HCC
          go_wp2_with fail
          refine (HCC.out _).mono ?_
          rintro e w1 ⟨rfl, hb1⟩
          have hb2 := below_step hb1 hz hb
          go_wp2
          go_roundw
          case rel => exact ⟨k + 1, by omega, by go_num, hb2, HA2⟩
          case measure => simp [intOf]; omega
      · obtain rfl : k = L.length := by omega
        have ha := HA.out
        rw [List.take_length] at ha
        obtain ⟨rfl, rfl⟩ := HY.out (by unfold cgB; rw [ha, h1]; rfl)
        have hz := hb.size
        have HGG := Lib.hid (HG.out ha _ hb)
        clear HA
        go_wp2_with fail
        refine HGG.out.mono ?_
        rintro e w1 ⟨v1, rfl, hO, hb1⟩
        go_wp2
        go_ret2
        exact ⟨_, rfl, hO.le hz, below_step hb1 hz hb⟩
end Go.Proofs.YtbmcabphjfpkhaaGreat

/- PdE -/
namespace Go.Proofs.YtbmcabphjfpkhaaGreat
set_option linter.all false
open Go.RowKit

theorem c_ownJ (v : Value) (L : List Int) (hL : L.length ≤ 100) (b : Nat) (w : World) (ho : OwnsI w b v L) :
    Calls Tryz.prog 63 #[v] w fun e w' => ∃ v', e = .returned v' ∧ OwnsI w' w.heap.size v' L ∧ Below w.heap.size w w' := by
  have hJ := ho.rdj
  have hbe : Below w.heap.size w (w.alloc (.cells #[] 3)) := (Below.refl _ _).alloc (Nat.le_refl _) _
  have hown0 := OwnsI.empty w
  have HJ := Lib.hid (hJ.below hbe)
  obtain ⟨a, c, rfl, hf⟩ := ho.form
  have hfz : 0 < L.length → ∃ g, a = some ⟨g, 0, none⟩ := fun h => by obtain ⟨g, h1, _⟩ := hf 0 h; exact ⟨g, h1⟩
  rcases Nat.eq_zero_or_pos L.length with h0 | h0
  · have hL0 := List.length_eq_zero_iff.1 h0
    subst hL0
    cases a with
    | none =>
      go_enter Tryz.func63, Tryz.ntmps63
      go_wp2
      go_ret
      exact ⟨_, rfl, hown0, hbe⟩
    | some a =>
      go_enter Tryz.func63, Tryz.ntmps63
      go_wp2
      go_ret
      exact ⟨_, rfl, hown0, hbe⟩
  · obtain ⟨g, rfl⟩ := hfz h0
    go_enter Tryz.func63, Tryz.ntmps63
    go_wp2_with (at_builtin; refine wpList_appJ rfl _ _ rfl w.heap.size _ _ [] L rfl rfl hown0 HJ.out (by simp; omega) (by simp) ?_; intro v1 w1 ho1 hO1; rw [List.nil_append] at ho1; have hB1 : Below w.heap.size w w1 := hO1.belowGe hbe hbe.size (by intro j hj; have := (own_lt hown0 j (mem_toList hj)).1; omega))
    go_wp2
    go_ret
    exact ⟨_, rfl, ho1, hB1⟩
set_option maxHeartbeats 2000000 in
theorem c_dsGroup (L : List Int) (v : Value) (hL : L.length ≤ 100) (hc : ∀ x ∈ L, ClsV x) (ha : ∀ x ∈ L, clB x = true) (w : World) (h : RdI w v L) :
    Calls Tryz.prog 35 #[v] w (IntsPost w (grS L) (grO L).isSome) := by
  have HA := Lib.hid (fun x hx => code_of (hc x hx) (ha x hx))
  obtain ⟨a, cap, rfl, hf⟩ := h
  have HF := Lib.hid hf
  have hO := OwnsI.one w 1
  have hb0 : Below w.heap.size w (w.alloc (.cells #[.int .i64 1] 3)) := (Below.refl _ _).alloc (Nat.le_refl _) _
  have H0 := Lib.hid (@grS_none L)
  have H1 := Lib.hid (fun G => @grS_some L G)
  have HG0 : Hid (genO [0] (L.map codeOf) = grO L) := rfl
  unfold IntsPost
  generalize grS L = R at *
  generalize grO L = O at *
  generalize hbO : O.isSome = bO at *
  clear hbO hf hc ha
  have hm1 : ([0] : List Nat).map cdV = [1] := by rw [List.map_cons, List.map_nil, cd_one]
  go_enter Tryz.func35, Tryz.ntmps35
  go_wp2
  go_loopw [4, 14] (fun o i wr => ∃ (k : Nat) (G : List Nat) (S : List Int), k ≤ L.length ∧ i = .int .i64 k ∧ OwnsI wr w.heap.size o S ∧ Below w.heap.size w wr ∧ Hid (GI G ∧ genO G ((L.drop k).map codeOf) = O ∧ S.Pairwise (· < ·) ∧ S.Perm (G.map cdV))) (fun _ i _ => L.length - (intOf i).toNat)
  case atStart => exact ⟨0, [0], [1], Nat.zero_le _, rfl, hO, hb0, Lib.hid ⟨GI.one, HG0.out, by simp, by rw [hm1]⟩⟩
  case round =>
    clear hO hb0 hm1 HG0
    obtain ⟨k, G, S, hk, rfl, hO, hb, HI⟩ := hrel
    by_cases hlt : k < L.length
    · obtain ⟨g, o, rfl, q, hg⟩ := HF.out k hlt
      replace q := (hb.cell (p := ⟨g, o + k, none⟩) hg).trans q
      have i0 : (k : Int) < (L.length : Int) := by omega
      obtain ⟨x1, x2, x3⟩ := HA.out _ (getD_mem L hlt)
      obtain ⟨hGI, hGO, hSs, hSp⟩ := HI.out
      rw [drop_next hlt, List.map_cons] at hGO
      rw [x2] at q
      generalize codeOf (L[k]?.getD 0) = c at *
      clear x2 HI
      have hGl : ∀ x ∈ G, x < 512 := fun x hx => (hGI.2.1 x hx).1
      have hSn : S.length = G.length := by rw [hSp.length_eq, List.length_map]
      have hSl : S.length ≤ 64 := by rw [hSn]; exact hGI.2.2
      have hC := fun (W : World) v (hr : RdI W v S) => c_l1Has S (cdV c) v (by omega) W hr
      have hhas : hasB (cdV c) S = decide (c ∈ G) := by
        rw [← has_code hGl x1, Bool.eq_iff_iff, has_mem, has_mem]
        exact hSp.mem_iff
      rw [hhas] at hC
      clear hhas
      by_cases hin : c ∈ G
      · rw [decide_eq_true hin] at hC
        have HS := Lib.hid (And.intro hGI (And.intro ((genO_in hin).symm.trans hGO) (And.intro hSs hSp)))
        have HC := Lib.hid hC
        clear hin hC hGO hGI hGl x1 x3 hSs hSp hSn
        generalize cdV c = d at *
        go_wp2_with fail
        refine (HC.out _ _ hO.rd).mono ?_
        rintro e w1 ⟨rfl, rfl⟩
        go_wp2
        go_roundw
        case rel => exact ⟨k + 1, G, S, by omega, by go_num, hO, hb, HS⟩
        case measure => simp [intOf]; omega
      · rw [decide_eq_false hin] at hC
        have hz := hb.size
        have HC := Lib.hid hC
        have HPr : Hid (∀ e, e ∈ S → ∃ ok : Bool, decide (cdN (c ^^^ codeOf e) ≤ 1000000) = ok ∧ (∀ W, Calls Tryz.prog 27 #[.int .i64 (cdV c), .int .i64 e] W fun en w' => en = .returned (.int .i64 (mulC c e)) ∧ ∃ k, w' = W.drewN k) ∧ (∀ W, Calls Tryz.prog 26 #[.int .i64 (mulC c e)] W fun en w' => en = .returned (.bool ok) ∧ Below W.heap.size W w') ∧ (ok = false → O = none)) := Lib.hid fun e he => by
          obtain ⟨m1, m2, m3, m4⟩ := mem_code hGI (hSp.mem_iff.1 he)
          refine ⟨_, rfl, fun W => ?_, fun W => ?_, fun hno => ?_⟩
          · have := c_dsProduct c (codeOf e) x3 m3 W
            rw [← m4] at this
            exact this
          · have := c_dsClass (mulC c e) (.inl ⟨_, xor_lt x1 m2, rfl⟩) W
            unfold mulC at this ⊢
            rw [clB_cd (xor_lt x1 m2)] at this
            exact this
          · rw [← hGO]
            exact genO_bad hin m1 (by simpa using hno)
        have HB : Hid (64 < 2 * S.length → O = none) := Lib.hid fun hbig => by
          rw [← hGO]
          exact genO_big hin (by rw [hSn] at hbig; exact hbig)
        have HND : Hid ((S ++ S.map (mulC c)).Nodup) := Lib.hid ((hSp.append (hSp.map _)).nodup_iff.2 (mul_nodup hGI x1 hin))
        have HSS := Lib.hid hSs
        have HE : Hid ((∀ j, j < S.length → decide (cdN (c ^^^ codeOf (S[j]?.getD 0)) ≤ 1000000) = true) → 2 * S.length ≤ 64 → ∀ M : List Int, M.Pairwise (· < ·) → M.Perm (S ++ S.map (mulC c)) → ∃ G', GI G' ∧ genO G' ((L.drop (k + 1)).map codeOf) = O ∧ M.Pairwise (· < ·) ∧ M.Perm (G'.map cdV)) := Lib.hid fun hall hl M hM1 hM2 => by
          have hal : ∀ e ∈ G, cdN (c ^^^ e) ≤ 1000000 := fun e he => by
            obtain ⟨j, hj, hje⟩ := List.getElem_of_mem (hSp.mem_iff.2 (List.mem_map.2 ⟨e, he, rfl⟩))
            have h9 := hall j hj
            rw [List.getElem?_eq_getElem hj, hje] at h9
            have h8 : ((some (cdV e)).getD 0) = cdV e := rfl
            rw [h8, code_cd (hGl e he), decide_eq_true_eq] at h9
            exact h9
          have hl' : 2 * G.length ≤ 64 := by rw [hSn] at hl; exact hl
          refine ⟨_, hGI.step x1 hin hal hl', ?_, hM1, ?_⟩
          · rw [← genO_go hin hal hl']; exact hGO
          · rw [List.map_append, ← mulC_map hGl]
            exact hM2.trans (hSp.append (hSp.map _))
        clear hin hC hGO hGI hGl x1 x3 hSp hSs hSn
        generalize cdV c = d at *
        go_wp2_with fail
        refine (HC.out _ _ hO.rd).mono ?_
        rintro e w1 ⟨rfl, rfl⟩
        go_wp2_with fail
        refine (c_ownJ _ S (by omega) w.heap.size _ hO).mono ?_
        rintro e w2 ⟨vm, rfl, hom, hb2⟩
        have HR := Lib.hid (fun (W : World) (hW : Below w2.heap.size w2 W) => (hO.below hb2).rd.below hW)
        obtain ⟨ac, capc, rfl, _⟩ := id hO.form
        have hB2 := below_step hb2 hz hb
        have hOm := hom.le hz
        clear hom hO hb2 hb HC
        go_wp2
        go_loopw [7, 25] (fun o j wr => ∃ (i : Nat) (M : List Int), i ≤ S.length ∧ j = .int .i64 i ∧ OwnsI wr w.heap.size o M ∧ Below w2.heap.size w2 wr ∧ Hid (PutI S (mulC c) i M) ∧ Hid (∀ j, j < i → decide (cdN (c ^^^ codeOf (S[j]?.getD 0)) ≤ 1000000) = true)) (fun _ j _ => S.length - (intOf j).toNat)
        case atStart => exact ⟨0, S, Nat.zero_le _, rfl, hOm, Below.refl _ _, Lib.hid (PutI.start HSS.out), Lib.hid fun j hj => by omega⟩
        case round =>
          clear hOm
          obtain ⟨i, M, hi, rfl, hO, hb, HP, HK⟩ := hrel
          have hz2 := hB2.size
          have hz3 := Nat.le_trans hz2 hb.size
          by_cases hl2 : i < S.length
          · obtain ⟨a4, cap4, f3, hq⟩ := HR.out _ hb
            obtain ⟨g5, o5, rfl, q5, _⟩ := hq i hl2
            injection f3 with f4 f5 f6
            subst f4
            clear hq f5 f6
            obtain ⟨ok, hok, hcall, hcls, hno⟩ := HPr.out _ (getD_mem S hl2)
            have HK2 : Hid (ok = true → ∀ j, j < i + 1 → decide (cdN (c ^^^ codeOf (S[j]?.getD 0)) ≤ 1000000) = true) := Lib.hid fun ht j hj => by
              rcases Nat.lt_or_ge j i with h9 | h9
              · exact HK.out j h9
              · obtain rfl : j = i := by omega
                rw [hok, ht]
            have HZ := Lib.hid (PutI.step HND.out HP.out hl2)
            have hM := HP.out.len hi
            have hMl : M.length ≤ 400 := by omega
            have HCL := Lib.hid hcall
            have HCS := Lib.hid hcls
            have HNO := Lib.hid hno
            clear hcall hcls hno HK hok hM HP
            have j0 : (i : Int) < (S.length : Int) := by omega
            generalize mulC c (S[i]?.getD 0) = y at *
            generalize S[i]?.getD 0 = ee at *
            go_wp2_with fail
            refine (HCL.out _).mono ?_
            rintro e w4 ⟨rfl, kd, rfl⟩
            have hb4 := below_drewN hb kd
            have hO4 := hO.below (below_drewN (Below.refl _ _) kd)
            rename World => wr
            generalize wr.drewN kd = wd at *
            go_wp2_with fail
            refine (HCS.out _).mono ?_
            rintro e w5 ⟨rfl, hb5⟩
            have hb6 := below_step hb5 hb4.size hb4
            have hO5 := hO4.below hb5
            have hz5 := Nat.le_trans hz2 hb6.size
            cases ok
            · obtain ⟨rfl, rfl⟩ := H0.out (HNO.out rfl)
              have hB6 := below_step hb6 hz2 hB2
              go_wp2
              go_ret2
              exact ⟨_, rfl, OwnsI.nil _ _, hB6⟩
            · go_wp2_with fail
              refine (c_l1Put w.heap.size _ M y hMl _ hz5 hO5).mono ?_
              rintro e w7 ⟨v7, rfl, hO7, hb7⟩
              have hb8 := below_step hb7 hb6.size hb6
              go_wp2
              go_roundw
              case rel => exact ⟨i + 1, _, by omega, by go_num, hO7, hb8, HZ, Lib.hid (HK2.out (by trivial))⟩
              case measure => simp [intOf]; omega
          · obtain rfl : i = S.length := by omega
            have hM := HP.out.len (Nat.le_refl _)
            obtain ⟨hp1, hp2⟩ := HP.out.all
            have hB6 := below_step hb hz2 hB2
            obtain ⟨am, capm, rfl, _⟩ := id hO.form
            by_cases hbig : 64 < M.length
            · obtain ⟨rfl, rfl⟩ := H0.out (HB.out (by omega))
              have hbg : (64 : Int) < (M.length : Int) := by omega
              clear hM hp1 hp2
              go_wp2
              go_ret2
              exact ⟨_, rfl, OwnsI.nil _ _, hB6⟩
            · obtain ⟨G', hG1, hG2, hG3, hG4⟩ := HE.out HK.out (by omega) M hp1 hp2
              have HS := Lib.hid (And.intro hG1 (And.intro hG2 (And.intro hG3 hG4)))
              have hbg : ¬ (64 : Int) < (M.length : Int) := by omega
              clear hM hp1 hp2 hG1 hG2 hG3 hG4
              go_wp2
              go_roundw
              case rel => exact ⟨k + 1, G', M, by omega, by go_num, hO, hB6, HS⟩
              case measure => simp [intOf]; omega
    · obtain rfl : k = L.length := by omega
      obtain ⟨hGI, hGO, hSs, hSp⟩ := HI.out
      rw [List.drop_length, List.map_nil, genO] at hGO
      obtain ⟨rfl, rfl⟩ := H1.out _ hGO.symm
      have hR := srt_eq hSs hSp
      clear HI hGI hGO hSs hSp
      go_wp2
      go_ret2
      exact ⟨_, rfl, by rw [← hR]; exact hO, hb⟩
set_option maxHeartbeats 1000000 in
theorem c_sClassGroup (L : List Int) (v : Value) (hL : L.length ≤ 100) (hc : ∀ x ∈ L, ClsV x) (w : World) (h : RdI w v L) :
    Calls Tryz.prog 11 #[v] w (IntsPost w (cgL L) (cgO L)) := by
  have HD := Lib.hid (fun W (hr : RdI W v L) => c_dsList L 12 v hL hc W hr)
  have hR := h
  have HN := Lib.hid (@cg_no L)
  have HY := Lib.hid (@cg_yes L)
  have HG := Lib.hid (fun (ha : L.all clB = true) (W : World) (hb : Below w.heap.size w W) => c_dsGroup L _ hL hc (List.all_eq_true.1 ha) W (hR.below hb))
  have HB : Hid ((L.all clB && inB L.length 1 12) = cgB L) := rfl
  have H1 := Lib.hid (HD.out w hR)
  obtain ⟨a, cap, rfl, hf⟩ := h
  unfold IntsPost at *
  generalize cgL L = R at *
  generalize cgO L = b at *
  generalize grS L = S at *
  generalize (grO L).isSome = o at *
  rw [HB.out] at H1
  clear hf hc hR HD
  cases h1 : cgB L
  · obtain ⟨rfl, rfl⟩ := HN.out h1
    rw [h1] at H1
    go_enter Tryz.func11, Tryz.ntmps11
    go_wp2_with fail
    refine H1.out.mono ?_
    rintro e w1 ⟨rfl, hb1⟩
    go_wp2
    go_ret2
    exact ⟨_, rfl, OwnsI.nil _ _, hb1⟩
  · obtain ⟨rfl, rfl⟩ := HY.out h1
    rw [h1] at H1
    have ha : L.all clB = true := by
      have h2 := HB.out
      rw [h1, Bool.and_eq_true] at h2
      exact h2.1
    have HGG := Lib.hid (HG.out ha)
    clear ha HG
    go_enter Tryz.func11, Tryz.ntmps11
    go_wp2_with fail
    refine H1.out.mono ?_
    rintro e w1 ⟨rfl, hb1⟩
    have hz := hb1.size
    go_wp2_with fail
    refine (HGG.out _ hb1).mono ?_
    rintro e w2 ⟨v2, rfl, hO, hb2⟩
    go_wp2
    go_ret2
    exact ⟨_, rfl, hO.le hz, below_step hb2 hz hb1⟩
end Go.Proofs.YtbmcabphjfpkhaaGreat

/- PdG -/
namespace Go.Proofs.YtbmcabphjfpkhaaGreat
set_option linter.all false
open Go.RowKit

section
variable {B k n : Nat} {v : Value} {xs : List Int} {w0 w w1 : World} {bl : List (Nat × Array Value × TypeId)}
/-- a list of the program's own, as one block that stays -/
def RowR (base : Nat) (u : Value) (L : List Int) (rl : List (Nat × Array Value × TypeId)) : Prop := (∀ w, MemL rl w → OwnsI w base u L) ∧ ∀ b ∈ rl, base ≤ b.1
theorem RowR.of {base : Nat} {u : Value} {L : List Int} (h : OwnsI w base u L) : ∃ rl, RowR base u L rl ∧ MemL rl w ∧ rl.Pairwise (fun a b => a.1 ≠ b.1) := by
  obtain ⟨h1, h2 | ⟨g, cap, cur, hv, hg, hh, r⟩⟩ := h
  · exact ⟨[], ⟨fun w _ => ⟨h1, .inl h2⟩, fun _ hb => (List.not_mem_nil hb).elim⟩, fun _ hb => (List.not_mem_nil hb).elim, List.Pairwise.nil⟩
  · exact ⟨[(g, cur, 3)], ⟨fun w hm => ⟨h1, .inr ⟨g, cap, cur, hv, hg, hm (g, cur, 3) (by simp), r⟩⟩, fun b hb => by rw [List.mem_singleton] at hb; subst hb; exact hg⟩, fun b hb => by rw [List.mem_singleton] at hb; subst hb; exact hh, by simp⟩
theorem Dr.addRow {base : Nat} {u : Value} {L : List Int} (d : Dr B k v xs n w0 bl w) (h : OwnsI w base u L) (hk : k < base) (hbl : ∀ b ∈ bl, b.1 < base) (h0 : w0.heap.size ≤ base) :
    ∃ rl, RowR base u L rl ∧ Dr B k v xs n w0 (rl ++ bl) w := by
  obtain ⟨rl, h1, h2, h3⟩ := RowR.of h
  have hB := d.cur.1
  refine ⟨rl, h1, d.cur, d.ovr, fun x hx => ?_, fun b hb => ?_, List.pairwise_append.2 ⟨h3, d.dif, fun a ha b hb => ?_⟩⟩
  · rcases List.mem_append.1 hx with hx | hx
    · exact h2 x hx
    · exact d.mem x hx
  · rcases List.mem_append.1 hb with hb | hb
    · have := h1.2 b hb
      exact ⟨by omega, by omega, by omega⟩
    · exact d.far b hb
  · have := h1.2 a ha
    have := hbl b hb
    omega
theorem Dr.left {rl : List (Nat × Array Value × TypeId)} (d : Dr B k v xs n w0 (rl ++ bl) w) : MemL rl w := fun x hx => d.mem x (List.mem_append_left _ hx)
theorem Dr.right {rl : List (Nat × Array Value × TypeId)} (d : Dr B k v xs n w0 (rl ++ bl) w) : Dr B k v xs n w0 bl w :=
  ⟨d.cur, d.ovr, fun x hx => d.mem x (List.mem_append_right _ hx), fun x hx => d.far x (List.mem_append_right _ hx), (List.pairwise_append.1 d.dif).2.1⟩
theorem Dr.row {base : Nat} {u : Value} {L : List Int} {rl : List (Nat × Array Value × TypeId)} (d : Dr B k v xs n w0 (rl ++ bl) w) (h : RowR base u L rl) : OwnsI w base u L := h.1 w d.left
/-- what grows above a bound leaves what lies below it -/
theorem Dr.grow {base : Nat} (d : Dr B k v xs n w0 bl w) (hb : Below base w w1) (hk : k < base) (hbl : ∀ b ∈ bl, b.1 < base) (h0 : w0.heap.size ≤ base) : Dr B k v xs n w0 bl w1 := by
  obtain ⟨h1, h2, h3, a, s, h4, h5, h6, h7⟩ := d.cur
  have hblk : ∀ b < base, w1.heap[b]? = w.heap[b]? := fun b h => hb.block b h
  refine ⟨⟨h1, Nat.lt_of_lt_of_le h2 hb.size, ?_, a, s, h4, h5, h6, (hblk k hk).trans h7⟩, ?_, fun x hx => (hblk _ (hbl x hx)).trans (d.mem x hx), d.far, d.dif⟩
  · obtain ⟨a', cap, hv, hm, hc⟩ := h3
    refine ⟨a', cap, hv, hm, fun i hi => ?_⟩
    obtain ⟨g, o, ha, q1, q2, q3, q4⟩ := hc i hi
    exact ⟨g, o, ha, (hb.cell (p := ⟨g, o + i, none⟩) (by show g < base; omega)).trans q1, q2, q3, q4⟩
  · exact ⟨hb.os.trans d.ovr.os, hb.tape.trans d.ovr.tape, hb.output.trans d.ovr.output, Nat.le_trans d.ovr.size hb.size, fun j hj hn => (hblk j (by omega)).trans (d.ovr.block j hj hn)⟩
end
def lenV : Value → Nat
  | .slice _ n _ => n
  | _ => 0
/-- a list of classes, drawn by a function -/
def ClsL (w : World) (e : Ending) (w' : World) : Prop := ∃ u L, e = .returned u ∧ OwnsI w' w.heap.size u L ∧ (∀ x ∈ L, ClsV x) ∧ L.length ≤ 13 ∧ Below w.heap.size w w'
theorem cls_add {L : List Int} {y : Int} (h : ∀ x ∈ L, ClsV x) (hy : ClsV y) : ∀ x ∈ L ++ [y], ClsV x := fun x hx => by
  rcases List.mem_append.1 hx with hx | hx
  · exact h x hx
  · rw [List.mem_singleton] at hx; rw [hx]; exact hy
set_option maxHeartbeats 2000000 in
theorem d_drawClassGroup (v : Value) (xs : List Int) (w : World) (h : RdB w w.heap.size v xs) : Calls Tryz.prog 9 #[v] w (ClsL w) := by
  have d1 := Dr.make0 h
  obtain ⟨a0, cap, rfl, _⟩ := h
  go_enter Tryz.func9, Tryz.ntmps9
  go_wp2_with fail
  generalize w.alloc _ = W0 at d1 ⊢
  refine (d_pick d1 (by omega) 4 (by omega)).mono ?_
  rintro e w2 ⟨x, rfl, hx, d2⟩
  simp only [show ¬ ((4 : Int) ≤ 1) by omega, if_false] at hx
  go_wp2_with fail
  refine (d_one d2 (by omega) 12 (by omega)).mono ?_
  rintro e w3 ⟨q, rfl, d3⟩
  clear d1 d2
  go_upto_if 13 with (fail)
  go_cut [5] from 6 (fun nv wc => ∃ N : Nat, nv = .int .i64 N ∧ N ≤ 13 ∧ Dr w.heap.size w.heap.size (.slice a0 xs.length cap) xs 100 w [] wc)
  case first =>
    cases q
    · go_wp2
      go_meet
      case rel => exact ⟨(1 + x).toNat, by rw [Int.toNat_of_nonneg (by omega)], by omega, d3.le (by omega)⟩
    · go_wp2_with fail
      refine (d_among d3 (by omega) [0, 12, 13] (by simp)).mono ?_
      rintro e w4 ⟨y, rfl, hy, d4⟩
      replace hy : 0 ≤ y ∧ y ≤ 13 := by simp at hy; omega
      go_wp2
      go_meet
      case rel => exact ⟨y.toNat, by rw [Int.toNat_of_nonneg (by omega)], by omega, d4.le (by omega)⟩
  case rest =>
    obtain ⟨N, rfl, hN, d4⟩ := hcut
    clear d3 hx
    have hkb : w.heap.size < w.heap.size + 1 := by omega
    have h0b : w.heap.size ≤ w.heap.size + 1 := by omega
    generalize hbe : w.heap.size + 1 = base at hkb h0b
    have hbb : base ≤ w.heap.size + 1 := by omega
    clear hbe
    go_wp2
    go_loopw [4] (fun lg wr => ∃ (L : List Int), L.length ≤ N ∧ OwnsI wr base lg L ∧ (∀ x ∈ L, ClsV x) ∧ Dr w.heap.size w.heap.size (.slice a0 xs.length cap) xs (100 + 10 * L.length) w [] wr) (fun lg _ => N - lenV lg)
    case atStart => exact ⟨[], by simp, OwnsI.nil _ _, by simp, d4⟩
    case round =>
      obtain ⟨L, hL, ho, hcl, dr⟩ := hrel
      obtain ⟨rl, hrow, dr2⟩ := dr.addRow ho hkb (fun _ hb => (List.not_mem_nil hb).elim) h0b
      obtain ⟨sa, cap', rfl, _⟩ := ho.form
      have HCL := Lib.hid hcl
      clear dr ho d4 hcl
      by_cases hgo : L.length < N
      · have hg0 : (L.length : Int) < (N : Int) := by omega
        by_cases h4 : 4 < N
        · have h40 : (4 : Int) < (N : Int) := by omega
          go_wp2_with fail
          refine (d_among dr2 (by omega) [2, 3, -1, 5, 7, 11, 1] (by simp)).mono ?_
          rintro e w7 ⟨y, rfl, hy, d7⟩
          have hY : ClsV y := clsv_code (by simp only [List.mem_cons, List.not_mem_nil, or_false] at hy ⊢; omega)
          have HA := Lib.hid (cls_add HCL.out hY)
          have ho9 := d7.row hrow
          have hs9 : base ≤ w7.heap.size := by have := d7.ovr.size; have := d7.cur.2.1; omega
          have hl9 : L.length < 1000000000000 := by omega
          clear dr2 hy hY HCL
          go_wp2_with (at_builtin; refine wpList_app_int (y := y) rfl _ _ rfl base _ L rfl ho9 rfl hl9 hs9 ?_; intro v' w30 ho30 hb30 hg30)
          have d30 := (d7.right).grow hb30 hkb (fun _ hb => (List.not_mem_nil hb).elim) h0b
          obtain ⟨sb, cb, hvb, _⟩ := ho30.form
          go_wp2
          go_roundw
          case rel => exact ⟨L ++ [y], by simp; omega, ho30, HA.out, d30.le (by simp; omega)⟩
          case measure => rw [hvb]; simp [lenV]; omega
        · have h40 : ¬ (4 : Int) < (N : Int) := by omega
          go_wp2_with fail
          refine (d_classOf dr2 (by omega)).mono ?_
          rintro e w7 ⟨y, rfl, hY, d7⟩
          have HA := Lib.hid (cls_add HCL.out hY)
          have ho9 := d7.row hrow
          have hs9 : base ≤ w7.heap.size := by have := d7.ovr.size; have := d7.cur.2.1; omega
          have hl9 : L.length < 1000000000000 := by omega
          clear dr2 hY HCL
          go_wp2_with (at_builtin; refine wpList_app_int (y := y) rfl _ _ rfl base _ L rfl ho9 rfl hl9 hs9 ?_; intro v' w30 ho30 hb30 hg30)
          have d30 := (d7.right).grow hb30 hkb (fun _ hb => (List.not_mem_nil hb).elim) h0b
          obtain ⟨sb, cb, hvb, _⟩ := ho30.form
          go_wp2
          go_roundw
          case rel => exact ⟨L ++ [y], by simp; omega, ho30, HA.out, d30.le (by simp; omega)⟩
          case measure => rw [hvb]; simp [lenV]; omega
      · have hg0 : ¬ (L.length : Int) < (N : Int) := by omega
        have hfin := (dr2.row hrow).le h0b
        have hout := dr2.out
        go_wp2
        go_ret
        exact ⟨_, L, rfl, hfin, HCL.out, by omega, hout⟩
end Go.Proofs.YtbmcabphjfpkhaaGreat
