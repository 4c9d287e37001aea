/- Walks: texts of logs read (ParseLog), the program's way. -/
import Derived.Test.YtpnpidepkfnofaaGreatDoorPlg
import Derived.Lib.AtoiErrMem
namespace Go.Proofs.YtpnpidepkfnofaaGreatDoor
open Go.RowKit

theorem var_below {P : Program} {W W' : World} {n : String} {cs : Array Value} (h : W.var? P n = some cs) (hb : Below W.heap.size W W') : W'.var? P n = some cs := by
  unfold World.var? at h ⊢
  cases hg : P.globalNamed n with
  | none => simp [hg] at h
  | some g =>
    simp only [hg, Option.bind_some] at h ⊢
    have hlt : g < W.heap.size := by
      rcases Nat.lt_or_ge g W.heap.size with h' | h'
      · exact h'
      · simp [Array.getElem?_eq_none h'] at h
    rw [hb.block g hlt]
    exact h
/-- what the library's variables hold -/
def PEnv (w : World) : Prop := TabI w ∧ (∃ m, w.cell? ⟨0, 0, none⟩ = some (.int .i64 m)) ∧ (∃ tp p, w.var? Tryz.prog "strconv.ErrSyntax" = some #[.iface tp p]) ∧ (∃ tp p, w.var? Tryz.prog "strconv.ErrRange" = some #[.iface tp p])
theorem PEnv.below {w w' : World} (h : PEnv w) (hb : Below w.heap.size w w') : PEnv w' := by
  obtain ⟨h1, ⟨m, h2⟩, ⟨t3, p3, h3⟩, ⟨t4, p4, h4⟩⟩ := h
  exact ⟨h1.below hb, ⟨m, (hb.cell (World.block_lt_of_cell? _ _ h2)).trans h2⟩, ⟨t3, p3, var_below h3 hb⟩, ⟨t4, p4, var_below h4 hb⟩⟩
/-- a block of strings that is there to be read -/
def TxB (g : Nat) (xs : List ByteArray) (w : World) : Prop := g < w.heap.size ∧ ∀ i (_ : i < xs.length), w.cell? ⟨g, i, none⟩ = some (.string xs[i])
theorem TxB.below {g : Nat} {xs : List ByteArray} {w w' : World} (h : TxB g xs w) (hb : Below w.heap.size w w') : TxB g xs w' := ⟨Nat.lt_of_lt_of_le h.1 hb.size, fun i hi => (hb.cell (p := ⟨g, i, none⟩) h.1).trans (h.2 i hi)⟩
theorem splitB_le (sep : ByteArray) (save : Nat) : ∀ (k : Nat) (s p : ByteArray), p ∈ Lib.splitB sep save k s → p.size ≤ s.size
  | 0, s, p, h => by simp [Lib.splitB] at h; rw [h]; exact Nat.le_refl _
  | k + 1, s, p, h => by
    unfold Lib.splitB at h
    split at h
    · simp at h; rw [h]; exact Nat.le_refl _
    · rcases List.mem_cons.1 h with rfl | h
      · simp; omega
      · have := splitB_le sep save k _ p h
        simp at this
        omega
theorem pcs_size {s : ByteArray} {i : Nat} (h : i < (pcs s).length) : (pcs s)[i].size ≤ s.size := splitB_le _ _ _ _ _ (List.getElem_mem h)
theorem pcs_len (s : ByteArray) : 1 ≤ (pcs s).length ∧ (pcs s).length ≤ s.size + 1 := by
  have h2 := Lib.splitB_length_le ⟨#[10]⟩ 1 (Lib.countB s ⟨#[10]⟩) s
  have h3 := Lib.countB_le ⟨#[10]⟩ (by decide) s.size s (Nat.le_refl _)
  refine ⟨?_, by unfold pcs; omega⟩
  unfold pcs
  cases Lib.countB s ⟨#[10]⟩ with
  | zero => simp [Lib.splitB]
  | succ k => unfold Lib.splitB; split <;> simp
/-! steps of the parse -/
theorem pcs_at {s : ByteArray} {L : List (Int × Int)} (h : isTxt s L) {i : Nat} (hi : i < (pcs s).length) : (pcs s).length = L.length + 1 ∧ (i = L.length → (pcs s)[i].data.toList = []) ∧ ∀ (hl : i < L.length), (pcs s)[i].data.toList = lnB L[i] := by
  have h1 := pcs_text h
  have hl1 : (pcs s).length = L.length + 1 := by
    have := congrArg List.length h1
    simpa using this
  have e : (pcs s)[i].data.toList = (L.map lnB ++ [[]])[i]'(by simp; omega) := by
    have := congrArg (·[i]?) h1
    simp only [List.getElem?_map, List.getElem?_eq_getElem hi, Option.map_some] at this
    rw [List.getElem?_eq_getElem (by simp; omega)] at this
    exact Option.some.inj this
  refine ⟨hl1, fun hi2 => ?_, fun hl => ?_⟩
  · rw [e]; subst hi2; simp
  · rw [e, List.getElem_append_left (by simpa using hl)]; simp
theorem lnB_ne (c : Int × Int) : lnB c ≠ [] := by simp [lnB]
theorem Pre.skip {s : ByteArray} {i : Nat} {R : List (Int × Int)} (hp : Pre s i R) (hi : i < (pcs s).length) (h0 : (pcs s)[i].data.toList = []) : Pre s (i + 1) R := fun L h => by
  obtain ⟨h1, h2, h3⟩ := pcs_at h hi
  have hl : i = L.length := by
    rcases Nat.lt_or_ge i L.length with hl | hl
    · exact absurd (h3 hl ▸ h0) (lnB_ne _)
    · omega
  refine ⟨by omega, ?_⟩
  rw [(hp L h).2, List.take_of_length_le (by omega), List.take_of_length_le (by omega)]
theorem Pre.step {s : ByteArray} {i : Nat} {R : List (Int × Int)} {k v : Int} (hp : Pre s i R) (hi : i < (pcs s).length) (h0 : (pcs s)[i].data.toList ≠ []) (hk : Lib.idxOfS namesV ⟨(wdP (pcs s)[i]).toArray⟩ = k) (hv : Lib.atoiAll (nbP (pcs s)[i]) = .ok v) : Pre s (i + 1) (R ++ [(k, v)]) := fun L h => by
  obtain ⟨h1, h2, h3⟩ := pcs_at h hi
  have hl : i < L.length := by
    rcases Nat.lt_or_ge i L.length with hl | hl
    · exact hl
    · exact absurd (h2 (by omega)) h0
  have hs := h.steps L[i] (List.getElem_mem hl)
  obtain ⟨f1, f2⟩ := line_facts (h3 hl) hs
  rw [f1, idx_names (stepB_z hs).1] at hk
  rw [f2] at hv
  injection hv with hv
  refine ⟨by omega, ?_⟩
  rw [List.take_succ_eq_append_getElem hl, (hp L h).2, ← hk, ← hv]
theorem Pre.bad {s : ByteArray} {i : Nat} {R : List (Int × Int)} (hp : Pre s i R) (hi : i < (pcs s).length) (h0 : (pcs s)[i].data.toList ≠ []) (hb : (∀ v, Lib.atoiAll (nbP (pcs s)[i]) ≠ .ok v) ∨ Lib.idxOfS namesV ⟨(wdP (pcs s)[i]).toArray⟩ < 0 ∨ R.length = 20) : plB s = false ∧ plR s = [] := by
  refine plR_no fun ⟨L, h⟩ => ?_
  obtain ⟨h1, h2, h3⟩ := pcs_at h hi
  have hl : i < L.length := by
    rcases Nat.lt_or_ge i L.length with hl | hl
    · exact hl
    · exact absurd (h2 (by omega)) h0
  have hs := h.steps L[i] (List.getElem_mem hl)
  obtain ⟨f1, f2⟩ := line_facts (h3 hl) hs
  rcases hb with hb | hb | hb
  · exact hb _ f2
  · rw [f1, idx_names (stepB_z hs).1] at hb
    have := (stepB_z hs).1
    omega
  · rw [(hp L h).2, List.length_take] at hb
    have := (logB_of h.1).1
    omega
set_option maxHeartbeats 1000000 in
theorem c_splitAfter (s : ByteArray) (w : World) (hE : PEnv w) (hs : s.size ≤ 1048576) :
    Calls Tryz.prog 34 #[.string s, .string ⟨#[10]⟩] w fun e w' => ∃ g cap, e = .returned (.slice (some ⟨g, 0, none⟩) (pcs s).length cap) ∧ TxB g (pcs s) w' ∧ Below w.heap.size w w' := by
  obtain ⟨_, ⟨m, hm⟩, _, _⟩ := hE
  have hle := Lib.countB_le ⟨#[10]⟩ (by decide) s.size s (Nat.le_refl _)
  have c := Tryz.strings_genSplit s ⟨#[10]⟩ 1 (-1) (Lib.countB s ⟨#[10]⟩ + 1) m w (by omega) hm (by decide) (by decide) (by decide) (by decide) (by rw [if_pos (by decide)]; omega)
  rw [Nat.add_sub_cancel] at c
  have hlen := Lib.splitB_length_le ⟨#[10]⟩ 1 (Lib.countB s ⟨#[10]⟩) s
  have HX : Hid (TxB w.heap.size (pcs s) (w.alloc (.cells (Lib.cellsOf (Lib.splitB ⟨#[10]⟩ 1 (Lib.countB s ⟨#[10]⟩) s) (Lib.countB s ⟨#[10]⟩ + 1)) 9))) := by
    refine ⟨by simp, fun i hi => ?_⟩
    have h1 := (Blk.new w (Lib.cellsOf (Lib.splitB ⟨#[10]⟩ 1 (Lib.countB s ⟨#[10]⟩) s) (Lib.countB s ⟨#[10]⟩ + 1)) 9).cell i
    rw [h1]
    unfold Lib.cellsOf
    have hi' : i < (Lib.splitB ⟨#[10]⟩ 1 (Lib.countB s ⟨#[10]⟩) s).length := hi
    rw [List.getElem?_toArray, List.getElem?_append_left (by simpa using hi'), List.getElem?_map, List.getElem?_eq_getElem hi']
    rfl
  have hb : Below w.heap.size w (w.alloc (.cells (Lib.cellsOf (Lib.splitB ⟨#[10]⟩ 1 (Lib.countB s ⟨#[10]⟩) s) (Lib.countB s ⟨#[10]⟩ + 1)) 9)) := (Below.refl _ _).alloc (Nat.le_refl _) _
  have HB := Lib.hid hb
  have HC := Lib.hid c
  have HN : Hid ((Lib.splitB ⟨#[10]⟩ 1 (Lib.countB s ⟨#[10]⟩) s).length = (pcs s).length) := rfl
  clear c hb hlen hle
  generalize (w.alloc _) = W at *
  generalize (Lib.splitB ⟨#[10]⟩ 1 (Lib.countB s ⟨#[10]⟩) s).length = n at *
  generalize Lib.countB s ⟨#[10]⟩ = cnt at *
  go_enter Tryz.func34, Tryz.ntmps34
  go_wp2_with fail
  refine HC.out.mono ?_
  rintro e w' ⟨rfl, hw⟩
  rw [hw]
  clear hw HC
  go_wp2
  refine bodyPost_ret (v := .slice (some ⟨w.heap.size, 0, none⟩) n (cnt + 1)) (by simp [results, Tryz.results34, go_sem]) rfl ?_
  exact ⟨_, _, by rw [HN.out], HX.out, HB.out⟩
theorem c_trimS (p : ByteArray) (hp : p.size ≤ 1048576) (w : World) :
    Calls Tryz.prog 36 #[.string p, .string ⟨#[10]⟩] w fun e w' => e = .returned (.string ⟨(Lib.trimSuffix p.data.toList [10]).toArray⟩) ∧ w = w' :=
  (Tryz.strings_TrimSuffix p ⟨#[10]⟩ w (by omega)).mono fun _ _ ⟨h1, h2⟩ => ⟨h1, h2.symm⟩
theorem c_cutS (p : ByteArray) (hp : p.size ≤ 1048576) (w : World) (hE : PEnv w) :
    Calls Tryz.prog 35 #[.string ⟨(Lib.trimSuffix p.data.toList [10]).toArray⟩, .string ⟨#[32]⟩] w fun e w' => ∃ fd, e = .returned (.tuple #[.string ⟨(wdP p).toArray⟩, .string ⟨(nbP p).toArray⟩, .bool fd]) ∧ Below w.heap.size w w' := by
  obtain ⟨_, ⟨m, hm⟩, _, _⟩ := hE
  have hl : (⟨(Lib.trimSuffix p.data.toList [10]).toArray⟩ : ByteArray).size < 4294967281 := by
    show (Lib.trimSuffix p.data.toList [10]).toArray.size < _
    have := Lib.trimSuffix_le p.data.toList [10]
    rw [← Lib.size_eq] at this
    simp
    omega
  exact (Tryz.strings_Cut ⟨(Lib.trimSuffix p.data.toList [10]).toArray⟩ ⟨#[32]⟩ m w hl hm).mono fun _ _ ⟨h1, k, h2⟩ => ⟨_, h1, h2 ▸ below_drewN (Below.refl _ _) k⟩
theorem c_atoiOk (t : ByteArray) (ht : t.size ≤ 1048576) (v : Int) (h : Lib.atoiAll t.data.toList = .ok v) (w : World) :
    Calls Tryz.prog 37 #[.string t] w fun e w' => e = .returned (.tuple #[.int .i64 v, .nilIface]) ∧ Below w.heap.size w w' :=
  (Tryz.strconv_Atoi_ok t (by omega) v h w).mono fun _ _ ⟨h1, h2⟩ => ⟨h1, by
    rcases h2 with rfl | ⟨u, rfl⟩
    · exact Below.refl _ _
    · exact Lib.bytesWorld_below _ _ _⟩
theorem c_atoiBad (t : ByteArray) (ht : t.size ≤ 1048576) (h : ∀ v, Lib.atoiAll t.data.toList ≠ .ok v) (w : World) (hE : PEnv w) :
    Calls Tryz.prog 37 #[.string t] w fun e w' => ∃ x tp q, e = .returned (.tuple #[.int .i64 x, .iface tp q]) ∧ Below w.heap.size w w' := by
  obtain ⟨_, _, ⟨t3, p3, h3⟩, ⟨t4, p4, h4⟩⟩ := hE
  rcases hz : Lib.atoiAll t.data.toList with v | _ | _
  · exact absurd hz (h v)
  · exact (Tryz.strconv_Atoi_syntax_var t (by omega) ⟨h, by rw [hz]; exact fun h9 => (by cases h9)⟩ t3 p3 w h3).mono fun _ _ ⟨N, h1, _, _, h2⟩ => ⟨_, _, _, h1, h2⟩
  · exact (Tryz.strconv_Atoi_range_var t (by omega) hz t4 p4 w h4).mono fun _ _ ⟨N, h1, _, _, h2⟩ => ⟨_, _, _, h1, h2⟩
theorem c_indexN (r : Nat) (x : ByteArray) (w : World) (h : Blk r #[.string ⟨#[117, 112]⟩, .string ⟨#[100, 111, 119, 110]⟩, .string ⟨#[116, 119, 105, 115, 116]⟩, .string ⟨#[117, 110, 116, 119, 105, 115, 116]⟩] 9 w) :
    Calls Tryz.prog 38 #[.slice (some ⟨r, 0, none⟩) 4 4, .string x] w fun e w' => e = .returned (.int .i64 (Lib.idxOfS namesV x)) ∧ w = w' :=
  (Tryz.slices_Index_string r 0 4 4 namesV x w (by decide) (by decide) (fun j hj => by
    rw [Nat.zero_add]
    match j, hj with
    | 0, _ => exact h.cell 0
    | 1, _ => exact h.cell 1
    | 2, _ => exact h.cell 2
    | 3, _ => exact h.cell 3)).mono fun _ _ ⟨h1, h2⟩ => ⟨h1, h2.symm⟩
def PlPost (s : ByteArray) (w : World) (e : Ending) (w' : World) : Prop := ∃ v, e = .returned (.tuple #[v, .bool (plB s)]) ∧ OwnsS w' w.heap.size v (plR s) ∧ Below w.heap.size w w'
theorem PlPost.no {s : ByteArray} {w w' : World} (h : plB s = false ∧ plR s = []) (hb : Below w.heap.size w w') : PlPost s w (.returned (.tuple #[.slice none 0 0, .bool false])) w' :=
  ⟨_, by rw [h.1], by rw [h.2]; exact OwnsP.nil _ _ _, hb⟩
theorem txtL_size {L : List (Int × Int)} (h : logB L = true) : (txtL L).size ≤ 600 := by
  have hl := (logB_of h).1
  have := txtV_size ⟨#[117, 112]⟩ ⟨#[100, 111, 119, 110]⟩ ⟨#[116, 119, 105, 115, 116]⟩ ⟨#[117, 110, 116, 119, 105, 115, 116]⟩ L (by decide) (fun c hc => by
    obtain ⟨k, hk, rfl⟩ := List.mem_iff_getElem.1 hc
    have := (stepB_z ((logB_of h).2 k hk)).2
    omega)
  unfold txtL
  omega
set_option maxHeartbeats 4000000 in
set_option maxRecDepth 20000 in
theorem c_iParseLog (s : ByteArray) (hs : s.size ≤ 1048576) (w : World) (hE : PEnv w) : Calls Tryz.prog 11 #[.string s] w (PlPost s w) := by
  have hn := pcs_len s
  have HS := Lib.hid (c_splitAfter s w hE hs)
  have HE0 := Lib.hid hE
  clear hE
  go_enter Tryz.func11, Tryz.ntmps11
  go_wp2_with fail
  refine HS.out.mono ?_
  rintro e w1 ⟨g, cap, rfl, hX, hb1⟩
  have hE1 := Lib.hid (PEnv.below HE0.out hb1)
  have HX := Lib.hid hX
  have hg := hX.1
  have hz1 := hb1.size
  clear HS HE0 hX
  generalize hnn : (pcs s).length = n at *
  have HN := Lib.hid hnn
  clear hnn
  go_wp2
  go_loopw [4, 16] (fun v iv wr => ∃ (i : Nat) (R : List (Int × Int)), i ≤ n ∧ iv = .int .i64 i ∧ Hid (Pre s i R) ∧ R.length ≤ 20 ∧ OwnsS wr w1.heap.size v R ∧ Below w1.heap.size w1 wr) (fun _ iv _ => n - (intOf iv).toNat)
  case atStart => exact ⟨0, [], by omega, rfl, Lib.hid (Pre.zero s), by simp, OwnsP.nil _ _ _, Below.refl _ _⟩
  case round =>
    obtain ⟨i, R, hi, rfl, hP, hR, ho, hb⟩ := hrel
    have hz := hb.size
    have hbw : Below w.heap.size w wr := below_step hb hz1 hb1
    by_cases hlt : i < n
    · have hi2 : i < (pcs s).length := by rw [HN.out]; exact hlt
      obtain ⟨p, hp⟩ : ∃ p, (pcs s)[i] = p := ⟨_, rfl⟩
      have q1 : wr.cell? ⟨g, i, none⟩ = some (.string p) := by rw [← hp]; exact (TxB.below HX.out hb).2 i hi2
      have hps : p.size ≤ 1048576 := by rw [← hp]; exact Nat.le_trans (pcs_size hi2) hs
      cases hq : p.toList.isEmpty
      · have h0 : p.data.toList ≠ [] := by
          rw [← Lib.toList_data]
          intro h9; rw [h9] at hq; cases hq
        obtain ⟨a, cap4, rfl, _⟩ := OwnsP.form ho
        have hnl : (⟨(nbP p).toArray⟩ : ByteArray).size ≤ 1048576 := by
          show (nbP p).toArray.size ≤ _
          have := nbP_len p
          simp
          omega
        have HT := Lib.hid (c_trimS p hps wr)
        have HCU := Lib.hid (c_cutS p hps wr (PEnv.below hE1.out hb))
        have HBad := Lib.hid (hP.out.bad hi2 (by rw [hp]; exact h0))
        have HStep := Lib.hid (fun k v => hP.out.step (k := k) (v := v) hi2 (by rw [hp]; exact h0))
        rw [hp] at HBad HStep
        clear hp hP
        go_wp2_with fail
        refine HT.out.mono ?_
        rintro e w' ⟨rfl, rfl⟩
        go_wp2_with fail
        refine HCU.out.mono ?_
        rintro e w2 ⟨fd, rfl, hb2⟩
        have ho2 := ho.below hb2
        have hb12 := below_step hb2 hz hb
        have hbw2 := below_step hb2 hbw.size hbw
        clear HT HCU q1 ho hb2
        cases hz : Lib.atoiAll (nbP p)
        case ok x =>
          have HA := Lib.hid (c_atoiOk ⟨(nbP p).toArray⟩ hnl x hz w2)
          go_wp2_with fail
          refine HA.out.mono ?_
          rintro e w3 ⟨rfl, hb3⟩
          have ho3 := ho2.below hb3
          have hb13 := below_step hb3 hb12.size hb12
          have hbw3 := below_step hb3 hbw2.size hbw2
          clear HA ho2 hb12 hbw2 hb3
          go_wp2_with fail
          refine (c_stepNames w3).mono ?_
          rintro e w4 ⟨r, hr, rfl, hb4, kN⟩
          have ho4 := ho3.below hb4
          have hb14 := below_step hb4 hb13.size hb13
          have hbw4 := below_step hb4 hbw3.size hbw3
          clear ho3 hb13 hbw3 hb4 hr
          have HIX := Lib.hid (c_indexN r ⟨(wdP p).toArray⟩ w4 kN)
          obtain ⟨k, hk⟩ : ∃ k, Lib.idxOfS namesV ⟨(wdP p).toArray⟩ = k := ⟨_, rfl⟩
          rw [hk] at HIX HBad
          have HP2 := Lib.hid (HStep.out k x hk hz)
          clear HStep kN hk
          go_wp2_with fail
          refine HIX.out.mono ?_
          rintro e w' ⟨rfl, rfl⟩
          clear HIX
          by_cases hk0 : k < 0
          · have hno := Lib.hid (HBad.out (.inr (.inl hk0)))
            clear HBad HP2 ho4
            go_wp2
            refine bodyPost_ret (v := .tuple #[.slice none 0 0, .bool false]) (by simp [results, Tryz.results11, go_sem]) rfl ?_
            exact PlPost.no hno.out hbw4
          · by_cases h20 : R.length = 20
            · have hno := Lib.hid (HBad.out (.inr (.inr h20)))
              have hk1 : 0 ≤ k := by omega
              have h21 : (R.length : Int) = 20 := by omega
              clear HBad HP2 ho4
              go_wp2
              refine bodyPost_ret (v := .tuple #[.slice none 0 0, .bool false]) (by simp [results, Tryz.results11, go_sem]) rfl ?_
              exact PlPost.no hno.out hbw4
            · have hk1 : 0 ≤ k := by omega
              have h21 : ((R.length : Int) == 20) = false := beq_eq_false_iff_ne.2 (by omega)
              have hs4 := hb14.size
              clear HBad
              go_wp2_with (at_builtin; refine wpList_appS (p := (k, x)) rfl _ _ rfl w1.heap.size _ R rfl ho4 rfl (by omega) hs4 ?_; intro v' w6 ho6 hb6 hg6)
              have hb16 := hb14.trans hb6
              clear hb6 hg6 ho4
              go_wp2
              go_roundw
              case rel => exact ⟨i + 1, R ++ [(k, x)], by omega, by go_num, HP2, by simp; omega, ho6, hb16⟩
              case measure => simp [intOf]; omega
        all_goals
          have hnb : ∀ v, Lib.atoiAll (⟨(nbP p).toArray⟩ : ByteArray).data.toList ≠ .ok v := fun v h9 => by
            have h8 : Lib.atoiAll (nbP p) = .ok v := h9
            rw [hz] at h8
            cases h8
          have HA := Lib.hid (c_atoiBad ⟨(nbP p).toArray⟩ hnl hnb w2 (PEnv.below hE1.out hb12))
          have hno := Lib.hid (HBad.out (.inl hnb))
          clear HBad HStep hnb ho2 hz
          go_wp2_with fail
          refine HA.out.mono ?_
          rintro e w3 ⟨x, tp, q, rfl, hb3⟩
          have hbw3 := below_step hb3 hbw2.size hbw2
          clear HA hb3
          go_wp2_with fail
          refine (c_stepNames w3).mono ?_
          rintro e w4 ⟨r, hr, rfl, hb4, kN⟩
          have hbw4 := below_step hb4 hbw3.size hbw3
          have HIX := Lib.hid (c_indexN r ⟨(wdP p).toArray⟩ w4 kN)
          generalize Lib.idxOfS namesV ⟨(wdP p).toArray⟩ = k at HIX
          clear kN hb4 hr
          go_wp2_with fail
          refine HIX.out.mono ?_
          rintro e w' ⟨rfl, rfl⟩
          clear HIX
          go_wp2
          refine bodyPost_ret (v := .tuple #[.slice none 0 0, .bool false]) (by simp [results, Tryz.results11, go_sem]) rfl ?_
          exact PlPost.no hno.out hbw4
      · have h0 : p.data.toList = [] := by
          rw [← Lib.toList_data]
          simpa using hq
        have HP := Lib.hid (hP.out.skip hi2 (by rw [hp]; exact h0))
        clear hp hP h0
        go_wp2
        go_roundw
        case rel => exact ⟨i + 1, R, by omega, by go_num, HP, hR, ho, hb⟩
        case measure => simp [intOf]; omega
    · obtain rfl : i = n := by omega
      have hall : ∀ L, isTxt s L → L.length ≤ i := fun L h => by
        have h1 := congrArg List.length (pcs_text h)
        simp at h1
        have := HN.out
        omega
      obtain ⟨a, cap4, rfl, _⟩ := OwnsP.form ho
      have HL := Lib.hid (c_isLog w1.heap.size _ R (by omega) wr ho)
      cases hlb : logB R
      · have hno := Lib.hid (hP.out.no (fun h => by rw [h.1] at hlb; cases hlb) hall)
        rw [hlb] at HL
        clear hP hlb ho
        go_wp2_with fail
        refine HL.out.mono ?_
        rintro e w2 ⟨rfl, hb2⟩
        have hbw2 := below_step hb2 hbw.size hbw
        go_wp2
        refine bodyPost_ret (v := .tuple #[.slice none 0 0, .bool false]) (by simp [results, Tryz.results11, go_sem]) rfl ?_
        exact PlPost.no hno.out hbw2
      · have hlf := logB_of hlb
        have HTX : Hid (∀ w2, Below wr.heap.size wr w2 → Calls Tryz.prog 29 #[.slice a R.length cap4] w2 fun e w' => e = .returned (.string (txtL R)) ∧ Below w2.heap.size w2 w') := fun w2 hb2 => c_logText w1.heap.size _ R (by omega) (fun k hk => stepB_bd (hlf.2 k hk)) _ _ _ _ (by decide) (Lib.hid c_stepNames) (Lib.hid fun y w hy ht => c_itoa y (by omega) (by omega) w ht) w2 ((PEnv.below (PEnv.below hE1.out hb) hb2).1) (ho.below hb2)
        rw [hlb] at HL
        have hT1 : ∀ h : txtL R = s, plB s = true ∧ plR s = R := fun h => hP.out.yes ⟨hlb, h⟩ hall
        have hT2 : ∀ h : txtL R ≠ s, plB s = false ∧ plR s = [] := fun h => hP.out.no (fun h9 => h h9.2) hall
        have hTs := txtL_size hlb
        generalize txtL R = T at *
        cases hq : (T.toList == s.toList)
        · have hno := Lib.hid (hT2 ((Lib.bytes_beq_false_iff T s).1 hq))
          clear hP hT1 hT2 hlb ho
          go_wp2_with fail
          refine HL.out.mono ?_
          rintro e w2 ⟨rfl, hb2⟩
          have hbw2 := below_step hb2 hbw.size hbw
          go_wp2_with fail
          refine (HTX.out w2 hb2).mono ?_
          rintro e w3 ⟨rfl, hb3⟩
          have hbw3 := below_step hb3 hbw2.size hbw2
          go_wp2
          refine bodyPost_ret (v := .tuple #[.slice none 0 0, .bool false]) (by simp [results, Tryz.results11, go_sem]) rfl ?_
          exact PlPost.no hno.out hbw3
        · have hyes := Lib.hid (hT1 ((Lib.bytes_beq_iff T s).1 hq))
          clear hP hT1 hT2 hlb
          go_wp2_with fail
          refine HL.out.mono ?_
          rintro e w2 ⟨rfl, hb2⟩
          have hbw2 := below_step hb2 hbw.size hbw
          have ho2 := ho.below hb2
          go_wp2_with fail
          refine (HTX.out w2 hb2).mono ?_
          rintro e w3 ⟨rfl, hb3⟩
          have hbw3 := below_step hb3 hbw2.size hbw2
          have ho3 := ho2.below hb3
          go_wp2
          refine bodyPost_ret (v := .tuple #[.slice a R.length cap4, .bool true]) (by simp [results, Tryz.results11, go_sem]) rfl ?_
          exact ⟨_, by rw [hyes.out.1], by rw [hyes.out.2]; exact ho3.le hz1, hbw3⟩
end Go.Proofs.YtpnpidepkfnofaaGreatDoor
