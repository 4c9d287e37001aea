/- Regions that draw their order, by a table (second form): what is known of each operation's result, whatever order is drawn. -/
import Derived.Test.YtmlfkceafkhlaaaDoorCls
import Derived.Test.YtmlfkceafkhlaaaDoorCurve
namespace Go.Proofs.YtmlfkceafkhlaaaDoor
open Go.RowKit

section
variable {P : Program} {ops : Array Oper} {Q : Exit → Act → World → Prop}
theorem count_set_true {l : List Bool} {i : Nat} (h : l[i]? = some false) : (l.set i true).count false + 1 = l.count false := by
  induction l generalizing i with
  | nil => simp at h
  | cons b l ih =>
    cases i with
    | zero =>
      simp at h
      subst h
      simp
    | succ i =>
      have := ih (i := i) (by simpa using h)
      cases b <;> simp at this ⊢ <;> omega
/-- what an operation waits for -/
def depsR (ops : Array Oper) (i : Nat) : List Nat := match ops[i]? with
  | some o => (o.after.toList.filter (Region.binds .any ·)).map (·.on)
  | none => []
/-- what an operation waits for, directly or through others (rows of a table) -/
def reachR (ops : Array Oper) : Nat → List (List Nat)
  | 0 => []
  | k + 1 => let t := reachR ops k; t ++ [(depsR ops k ++ (depsR ops k).flatMap fun d => t.getD d []).eraseDups]
/-- the operations marked in fl come first, all of them -/
def phaseR (ops : Array Oper) (fl : List Bool) : Bool :=
  decide (fl.length = ops.size) && (List.range ops.size).all fun i =>
    (depsR ops i).all (fun d => decide (d < i)) && (if fl.getD i false then (depsR ops i).all (fun d => fl.getD d false) else (List.range ops.size).all fun j => !fl.getD j false || ((reachR ops ops.size).getD i []).contains j)
theorem reachR_len (ops : Array Oper) : ∀ k, (reachR ops k).length = k
  | 0 => rfl
  | k + 1 => by simp [reachR, reachR_len ops k]
theorem reachR_pre (ops : Array Oper) (k : Nat) : ∀ m i, i < k → (reachR ops (k + m)).getD i [] = (reachR ops k).getD i []
  | 0, _, _ => rfl
  | m + 1, i, h => by
    have := reachR_pre ops k m i h
    rw [← this, show k + (m + 1) = (k + m) + 1 by omega, reachR]
    simp only [List.getD_eq_getElem?_getD]
    rw [List.getElem?_append_left (by rw [reachR_len]; omega)]
/-- a set of operations that waits for nothing outside -/
def ClosedL (ops : Array Oper) (L : Nat → Prop) : Prop := ∀ i, L i → ∀ d ∈ depsR ops i, L d
theorem reach_mem {L : Nat → Prop} (hL : ClosedL ops L) : ∀ k i, i < k → (∀ d ∈ depsR ops i, d < i) → (∀ i' < i, ∀ d ∈ depsR ops i', d < i') → (∀ d ∈ depsR ops i, L d) → ∀ j ∈ (reachR ops k).getD i [], L j := by
  intro k
  induction k with
  | zero => intro i h; omega
  | succ k ih =>
    intro i hi hd hd' hl j hj
    by_cases hik : i < k
    · rw [reachR_pre ops k 1 i hik] at hj
      exact ih i hik hd hd' hl j hj
    · obtain rfl : i = k := by omega
      rw [reachR] at hj
      simp only [List.getD_eq_getElem?_getD] at hj
      rw [List.getElem?_append_right (by rw [reachR_len]; omega)] at hj
      rw [reachR_len] at hj
      simp only [Nat.sub_self, List.getElem?_cons_zero, Option.getD_some, List.mem_eraseDups, List.mem_append, List.mem_flatMap] at hj
      rcases hj with hj | ⟨d, hdm, hj⟩
      · exact hl j hj
      · refine ih d (hd d hdm) (hd' d (hd d hdm)) (fun i' h' => hd' i' (by have := hd d hdm; omega)) (hL d (hl d hdm)) j ?_
        simpa [List.getD_eq_getElem?_getD] using hj
theorem mem_depsR {i d : Nat} : d ∈ depsR ops i ↔ ∃ o, ops[i]? = some o ∧ ∃ e ∈ o.after, Region.binds .any e = true ∧ e.on = d := by
  unfold depsR
  cases h : ops[i]? with
  | none => simp
  | some o =>
    simp only [List.mem_map, List.mem_filter, Option.some.injEq]
    constructor
    · rintro ⟨e, ⟨he, hb⟩, rfl⟩
      exact ⟨o, rfl, e, by simpa using he, hb, rfl⟩
    · rintro ⟨o', rfl, e, he, hb, rfl⟩
      exact ⟨e, ⟨by simpa using he, hb⟩, rfl⟩
/-- slots and the operations that fill them, in the text's order -/
def dstR (ops : Array Oper) (fl : List Bool) : List (Nat × Nat) := (List.range ops.size).filterMap fun i => if fl.getD i false then (match ops[i]? with | some o => o.dst.map fun d => (i, d) | none => none) else none
def putR (a : Act) (dl : List (Nat × Nat)) (vs : Nat → Value) : Act := dl.foldl (fun b p => b.put (some p.2) (vs p.1)) a
def dstOkR (ops : Array Oper) (fl : List Bool) (n : Nat) : Bool :=
  ((List.range ops.size).all fun i => !fl.getD i false || match ops[i]? with | some o => (match o.dst with | some d => decide (d < n) | none => false) | none => false) && decide ((dstR ops fl).map (·.2)).Nodup
/-- an operation leaves a value of which R holds, and has but made memory -/
def OpTo (P : Program) (o : Oper) (ρ : Operand → Value) (w : World) (R : Value → World → Prop) : Prop :=
  (∃ v w', (execOp ρ o).run P w = .ok (.value v) w' ∧ Below w.heap.size w w' ∧ R v w') ∨
  (∃ f args, (execOp ρ o).run P w = .ok (.enter f args) w ∧ Calls P f args w fun e w' => ∃ v, e = .returned v ∧ Below w.heap.size w w' ∧ R v w')
theorem OpTo.wpOp {o : Oper} {a : Act} {w : World} {R : Value → World → Prop} {i : Nat} (h : OpTo P o a.eval w R) (ho : ops[i]? = some o) (hg : o.guard = none) {K : Act → World → Prop}
    (hK : ∀ v w', Below w.heap.size w w' → R v w' → K (a.put o.dst v) w') : wpOp P ops Q i K a w := by
  unfold Go.wpOp
  simp only [ho]
  rw [if_pos (by simp [Region.wanted, hg])]
  refine .inl ?_
  unfold Oper.wp
  rcases h with ⟨v, w', hr, hb, hR⟩ | ⟨f, args, hr, hc⟩
  · rw [hr]
    exact hK v w' hb hR
  · rw [hr]
    refine hc.mono fun e w' ⟨v, he, hb, hR⟩ => ?_
    subst he
    exact hK v w' hb hR
/-- a new variable: its block -/
def PA (lo : Nat) (zs : Array Value) (T : TypeId) : Value → World → Prop := fun v w => ∃ r, v = .pointer (some ⟨r, 0, none⟩) ∧ lo ≤ r ∧ Blk r zs T w
theorem PA.closed (lo : Nat) (zs : Array Value) (T : TypeId) (v : Value) : Closed (PA lo zs T v) := fun _ _ ⟨r, h1, h2, h3⟩ hb => ⟨r, h1, h2, h3.next hb⟩
/-- operation i comes up when all that it waits for has -/
def StepT (P : Program) (ops : Array Oper) (fl : List Bool) (al : List Nat) (a0 : Act) (W : World) (PV : Nat → Value → World → Prop) (i : Nat) : Prop :=
  ∀ o, ops[i]? = some o → ∀ (a : Act) (w : World), Below W.heap.size W w → (∀ t, (∀ p ∈ dstR ops fl, p.2 ≠ t) → a.tmps[t]? = a0.tmps[t]?) → (∀ d ∈ depsR ops i, ∀ od t, ops[d]? = some od → od.dst = some t → ∃ v, a.tmps[t]? = some v ∧ PV d v w) →
    OpTo P o a.eval w fun v w' => PV i v w' ∧ (i ∈ al → v = .pointer (some ⟨w.heap.size, 0, none⟩))
structure RegI (ops : Array Oper) (fl : List Bool) (al : List Nat) (a0 : Act) (W : World) (PV : Nat → Value → World → Prop) (listed : Array Bool) (a : Act) (w : World) : Prop where
  size : listed.size = ops.size
  clo : ∀ i, listed.getD i false = true → ∀ d ∈ depsR ops i, listed.getD d false = true
  sub : ∀ i, listed.getD i false = true → fl.getD i false = true
  val : ∀ i o d, listed.getD i false = true → ops[i]? = some o → o.dst = some d → ∃ v, a.tmps[d]? = some v ∧ PV i v w
  bas : ∀ t, (∀ p ∈ dstR ops fl, p.2 ≠ t) → a.tmps[t]? = a0.tmps[t]?
  siz : a.tmps.size = a0.tmps.size
  dfr : a.defers = a0.defers
  ovr : Below W.heap.size W w
  sep : ∀ i j oi oj di dj, i ≠ j → i ∈ al → j ∈ al → listed.getD i false = true → listed.getD j false = true → ops[i]? = some oi → ops[j]? = some oj → oi.dst = some di → oj.dst = some dj → a.tmps[di]? ≠ a.tmps[dj]?
theorem mem_dstR {fl : List Bool} {p : Nat × Nat} : p ∈ dstR ops fl ↔ fl.getD p.1 false = true ∧ ∃ o, ops[p.1]? = some o ∧ o.dst = some p.2 := by
  unfold dstR
  rw [List.mem_filterMap]
  constructor
  · rintro ⟨i, hi, h⟩
    split at h
    · rename_i hf
      cases ho : ops[i]? with
      | none => rw [ho] at h; cases h
      | some o =>
        rw [ho] at h
        cases hd : o.dst with
        | none => simp only [hd] at h; cases h
        | some d =>
          simp only [hd, Option.map_some, Option.some.injEq] at h
          subst h
          exact ⟨hf, o, ho, hd⟩
    · cases h
  · rintro ⟨hf, o, ho, hd⟩
    refine ⟨p.1, List.mem_range.2 (Array.getElem?_eq_some_iff.1 ho).1, ?_⟩
    rw [if_pos hf, ho]
    simp [hd]
theorem put_tmps (a : Act) (d : Nat) (v : Value) (t : Nat) : (a.put (some d) v).tmps[t]? = if d = t then (if t < a.tmps.size then some v else none) else a.tmps[t]? := by
  simp only [Act.put]
  rw [Array.getElem?_setIfInBounds]
  split
  · rename_i h
    subst h
    rfl
  · rfl
theorem putR_tmps (vs : Nat → Value) : ∀ (dl : List (Nat × Nat)) (a : Act) (t : Nat), (dl.map (·.2)).Nodup → (putR a dl vs).tmps[t]? = (match dl.find? (fun p => p.2 == t) with | some p => if t < a.tmps.size then some (vs p.1) else none | none => a.tmps[t]?) ∧ (putR a dl vs).tmps.size = a.tmps.size ∧ (putR a dl vs).defers = a.defers
  | [], a, t, _ => ⟨rfl, rfl, rfl⟩
  | p :: dl, a, t, hn => by
    rw [List.map_cons, List.nodup_cons] at hn
    obtain ⟨h1, h2, h3⟩ := putR_tmps vs dl (a.put (some p.2) (vs p.1)) t hn.2
    have hs : (a.put (some p.2) (vs p.1)).tmps.size = a.tmps.size := put_size _ _ _
    have e : putR a (p :: dl) vs = putR (a.put (some p.2) (vs p.1)) dl vs := rfl
    rw [e]
    refine ⟨?_, h2.trans hs, h3.trans rfl⟩
    rw [h1, List.find?_cons]
    by_cases hp : p.2 = t
    · have hno : dl.find? (fun p => p.2 == t) = none := by
        rw [List.find?_eq_none]
        intro q hq hqt
        have hqt' : q.2 = t := by simpa using hqt
        exact hn.1 (List.mem_map.2 ⟨q, hq, hqt'.trans hp.symm⟩)
      rw [hno]
      simp only [show (p.2 == t) = true by simpa using hp]
      rw [put_tmps, if_pos hp]
    · simp only [show (p.2 == t) = false by simpa using hp]
      cases hf : dl.find? (fun p => p.2 == t) with
      | none => simp only []; rw [put_tmps, if_neg hp]
      | some q => simp only []; rw [hs]
theorem nodup_snd : ∀ {l : List (Nat × Nat)}, (l.map (·.2)).Nodup → ∀ {p q : Nat × Nat}, p ∈ l → q ∈ l → p.2 = q.2 → p = q
  | [], _, p, _, hp, _, _ => by cases hp
  | x :: l, hn, p, q, hp, hq, e => by
    rw [List.map_cons, List.nodup_cons] at hn
    rcases List.mem_cons.1 hp with h1 | h1
    · rcases List.mem_cons.1 hq with h2 | h2
      · rw [h1, h2]
      · exact absurd (List.mem_map.2 ⟨q, h2, by rw [← e, h1]⟩) hn.1
    · rcases List.mem_cons.1 hq with h2 | h2
      · exact absurd (List.mem_map.2 ⟨p, h1, by rw [e, h2]⟩) hn.1
      · exact nodup_snd hn.2 h1 h2 e
theorem wpAny_table {fl : List Bool} {al : List Nat} {a0 : Act} {W : World} {PV : Nat → Value → World → Prop} (hph : phaseR ops fl = true) (hdk : dstOkR ops fl a0.tmps.size = true) (hgd : ∀ i o, fl.getD i false = true → ops[i]? = some o → o.guard = none) (hal : ∀ i ∈ al, ∃ lo zs T, PV i = PA lo zs T) (hcl : ∀ i v, Closed (PV i v))
    (hst : ∀ i, fl.getD i false = true → StepT P ops fl al a0 W PV i)
    (hrest : ∀ (vs : Nat → Value) (w : World), Below W.heap.size W w → (∀ p ∈ dstR ops fl, PV p.1 (vs p.1) w) → (∀ p ∈ dstR ops fl, ∀ q ∈ dstR ops fl, p.1 ≠ q.1 → p.1 ∈ al → q.1 ∈ al → vs p.1 ≠ vs q.1) → wpAny P .any ops Q (fl.count false) fl.toArray (putR a0 (dstR ops fl) vs) w) :
    ∀ (fuel : Nat) (listed : Array Bool) (a : Act) (w : World), RegI ops fl al a0 W PV listed a w → listed.toList.count false = fuel → wpAny P .any ops Q fuel listed a w := by
  unfold phaseR at hph
  simp only [Bool.and_eq_true, decide_eq_true_eq, List.all_eq_true, List.mem_range] at hph
  obtain ⟨hlen, hph⟩ := hph
  unfold dstOkR at hdk
  simp only [Bool.and_eq_true, decide_eq_true_eq, List.all_eq_true, List.mem_range] at hdk
  obtain ⟨hdst, hnod⟩ := hdk
  have hfl : ∀ i, fl.getD i false = true → i < ops.size := fun i h => by
    rcases Nat.lt_or_ge i fl.length with h' | h'
    · omega
    · rw [List.getD_eq_getElem?_getD, List.getElem?_eq_none h'] at h
      cases h
  have hacy : ∀ i, ∀ d ∈ depsR ops i, d < i := fun i d hd => by
    obtain ⟨o, ho, _⟩ := mem_depsR.1 hd
    exact (hph i (Array.getElem?_eq_some_iff.1 ho).1).1 d hd
  have hslot : ∀ i, fl.getD i false = true → ∃ o d, ops[i]? = some o ∧ o.dst = some d ∧ d < a0.tmps.size := fun i h => by
    have := hdst i (hfl i h)
    rw [h] at this
    simp only [Bool.not_true, Bool.false_or] at this
    cases ho : ops[i]? with
    | none => rw [ho] at this; cases this
    | some o =>
      rw [ho] at this
      cases hd : o.dst with
      | none => simp only [hd] at this; cases this
      | some d => simp only [hd, decide_eq_true_eq] at this; exact ⟨o, d, rfl, hd, this⟩
  -- all that come first have come up
  have hfin : ∀ (listed : Array Bool) (a : Act) (w : World), RegI ops fl al a0 W PV listed a w → (∀ i, fl.getD i false = true → listed.getD i false = true) → wpAny P .any ops Q (listed.toList.count false) listed a w := fun listed a w hI hall => by
    have e1 : listed = fl.toArray := by
      apply Array.ext
      · rw [hI.size]; simpa using hlen.symm
      · intro i h1 h2
        have h2' : i < fl.length := by simpa using h2
        have f1 : listed.getD i false = listed[i] := by simp [Array.getD_eq_getD_getElem?, h1]
        have f2 : fl.getD i false = fl[i] := by simp [List.getD_eq_getElem?_getD, h2']
        have h3 : fl.toArray[i] = fl[i] := by simp
        rw [h3]
        cases hx : listed[i] with
        | true =>
          have h := hI.sub i (by rw [f1, hx])
          rw [f2] at h
          exact h.symm
        | false =>
          cases hy : fl[i] with
          | false => rfl
          | true =>
            have h := hall i (by rw [f2, hy])
            rw [f1, hx] at h
            exact h
    let vs : Nat → Value := fun i => match ops[i]? with | some o => (match o.dst with | some d => a.tmps[d]?.getD undef | none => undef) | none => undef
    have hvs : ∀ p ∈ dstR ops fl, a.tmps[p.2]? = some (vs p.1) ∧ PV p.1 (vs p.1) w := fun p hp => by
      obtain ⟨hf, o, ho, hd⟩ := mem_dstR.1 hp
      obtain ⟨v, hv, hpv⟩ := hI.val p.1 o p.2 (hall _ hf) ho hd
      have : vs p.1 = v := by
        show (match ops[p.1]? with | some o => (match o.dst with | some d => a.tmps[d]?.getD undef | none => undef) | none => undef) = v
        rw [ho]
        simp only [hd, hv, Option.getD_some]
      rw [this]
      exact ⟨hv, hpv⟩
    have e2 : a = putR a0 (dstR ops fl) vs := by
      obtain ⟨_, h2, h3⟩ := putR_tmps vs (dstR ops fl) a0 0 hnod
      have ht : a.tmps = (putR a0 (dstR ops fl) vs).tmps := by
        apply Array.ext_getElem?
        intro t
        rw [(putR_tmps vs (dstR ops fl) a0 t hnod).1]
        cases hf : (dstR ops fl).find? (fun p => p.2 == t) with
        | none =>
          rw [List.find?_eq_none] at hf
          exact hI.bas t fun p hp e => hf p hp (by simpa using e)
        | some p =>
          have hp := List.mem_of_find?_eq_some hf
          have ht : p.2 = t := by simpa using List.find?_some hf
          have h1 := (hvs p hp).1
          rw [ht] at h1
          have hlt : t < a.tmps.size := (Array.getElem?_eq_some_iff.1 h1).1
          rw [hI.siz] at hlt
          simp only [hlt, if_true]
          exact h1
      cases a
      cases hq : putR a0 (dstR ops fl) vs
      rw [hq] at ht h3
      simp only at ht h3
      have hdf := hI.dfr
      simp only at hdf
      rw [ht, hdf, h3]
    rw [e2, e1]
    refine hrest vs w hI.ovr (fun p hp => (hvs p hp).2) fun p hp q hq hpq hpa hqa he => ?_
    obtain ⟨hf1, o1, ho1, hd1⟩ := mem_dstR.1 hp
    obtain ⟨hf2, o2, ho2, hd2⟩ := mem_dstR.1 hq
    exact hI.sep p.1 q.1 o1 o2 p.2 q.2 hpq hpa hqa (hall _ hf1) (hall _ hf2) ho1 ho2 hd1 hd2 (by rw [(hvs p hp).1, (hvs q hq).1, he])
  intro fuel
  induction fuel with
  | zero =>
    intro listed a w hI hc
    rw [← hc]
    refine hfin listed a w hI fun i hi => ?_
    have hlt : i < listed.size := by rw [hI.size]; exact hfl i hi
    cases hb : listed[i] with
    | true => simp [Array.getD_eq_getD_getElem?, hlt, hb]
    | false => exact absurd (by rw [← hb]; exact Array.getElem_mem_toList hlt) (List.count_eq_zero.1 hc)
  | succ fuel ih =>
    intro listed a w hI hc
    by_cases hall : ∀ i, fl.getD i false = true → listed.getD i false = true
    · rw [← hc]
      exact hfin listed a w hI hall
    · have hex : ∃ i, fl.getD i false = true ∧ listed.getD i false = false := by
        refine Classical.byContradiction fun hno => hall fun i hi => ?_
        cases hb : listed.getD i false with
        | true => rfl
        | false => exact absurd ⟨i, hi, hb⟩ hno
      refine ⟨fun h0 => ?_, fun i hi => ?_⟩
      · exfalso
        -- the least that has not come up would be ready
        have hmin : ∀ k i, i < k → fl.getD i false = true → listed.getD i false = false → False := by
          intro k
          induction k with
          | zero => intro i h; omega
          | succ k ihk =>
            intro i hik hf hb
            by_cases hdeps : ∀ d ∈ depsR ops i, listed.getD d false = true
            · have hlt := hfl i hf
              have hr : i ∈ Region.ready .any ops listed := by
                rw [mem_ready]
                refine ⟨?_, ops[i], by simp [hlt], fun e he hbd => hdeps _ (mem_depsR.2 ⟨ops[i], by simp [hlt], e, he, hbd, rfl⟩)⟩
                have hl : i < listed.size := by rw [hI.size]; exact hlt
                simpa [Array.getD_eq_getD_getElem?, hl] using hb
              rw [h0] at hr
              cases hr
            · have : ∃ d ∈ depsR ops i, listed.getD d false = false := by
                refine Classical.byContradiction fun hno => hdeps fun d hd => ?_
                cases hb' : listed.getD d false with
                | true => rfl
                | false => exact absurd ⟨d, hd, hb'⟩ hno
              obtain ⟨d, hd, hbd⟩ := this
              have hfd : fl.getD d false = true := by
                have := (hph i (hfl i hf)).2
                rw [if_pos hf, List.all_eq_true] at this
                exact this d hd
              exact ihk d (by have := hacy i d hd; omega) hfd hbd
        obtain ⟨i, hi, hb⟩ := hex
        exact hmin (i + 1) i (by omega) hi hb
      · obtain ⟨hun, o, ho, hdeps⟩ := mem_ready.1 hi
        have hlt : i < ops.size := (Array.getElem?_eq_some_iff.1 ho).1
        have hl : i < listed.size := by rw [hI.size]; exact hlt
        have hdl : ∀ d ∈ depsR ops i, listed.getD d false = true := fun d hd => by
          obtain ⟨o', ho', e, he, hbd, rfl⟩ := mem_depsR.1 hd
          rw [ho] at ho'
          obtain rfl := Option.some.inj ho'
          exact hdeps e he hbd
        have hfi : fl.getD i false = true := by
          refine Classical.byContradiction fun hno => ?_
          have := (hph i hlt).2
          rw [if_neg hno, List.all_eq_true] at this
          obtain ⟨j, hj, hbj⟩ := hex
          have hjr := this j (List.mem_range.2 (hfl j hj))
          rw [hj] at hjr
          simp only [Bool.not_true, Bool.false_or, List.contains_eq_mem, decide_eq_true_eq] at hjr
          have := reach_mem (L := fun j => listed.getD j false = true) (fun i h d hd => hI.clo i h d hd) ops.size i hlt (hacy i) (fun i' _ => hacy i') hdl j hjr
          rw [this] at hbj
          cases hbj
        obtain ⟨o', d, ho', hd, hdlt⟩ := hslot i hfi
        rw [ho] at ho'
        obtain rfl := Option.some.inj ho'
        have hdm : (i, d) ∈ dstR ops fl := mem_dstR.2 ⟨hfi, o, ho, hd⟩
        refine (hst i hfi o ho a w hI.ovr hI.bas (fun e he oe t hoe hoet => hI.val e oe t (hdl e he) hoe hoet)).wpOp ho (hgd i o hfi ho) fun v w' hb ⟨hpv, hva⟩ => ?_
        have hset : ∀ j, (listed.setIfInBounds i true).getD j false = true ↔ (j = i ∨ listed.getD j false = true) := fun j => by
          simp only [Array.getD_eq_getD_getElem?, Array.getElem?_setIfInBounds]
          by_cases hji : i = j
          · subst hji; simp [hl]
          · rw [if_neg hji]
            constructor
            · exact fun h => .inr h
            · rintro (h | h)
              · exact absurd h.symm hji
              · exact h
        refine ih _ _ _ ⟨by simpa using hI.size, fun j hj e he => ?_, fun j hj => ?_, fun j oj t hj hoj hjt => ?_, fun t ht => ?_, (put_size _ _ _).trans hI.siz, ?_, below_step hb hI.ovr.size hI.ovr, fun x y ox oy dx dy hxy hxa hya hxl hyl hox hoy hdx hdy => ?_⟩ ?_
        · rw [hset] at hj ⊢
          rcases hj with rfl | hj
          · exact .inr (hdl e he)
          · exact .inr (hI.clo j hj e he)
        · rw [hset] at hj
          rcases hj with rfl | hj
          · exact hfi
          · exact hI.sub j hj
        · rw [hset] at hj
          rw [hd, put_tmps]
          by_cases hji : j = i
          · subst hji
            rw [ho] at hoj
            obtain rfl := Option.some.inj hoj
            rw [hd] at hjt
            obtain rfl := Option.some.inj hjt
            rw [if_pos rfl, if_pos (by rw [hI.siz]; exact hdlt)]
            exact ⟨v, rfl, hpv⟩
          · have hj' : listed.getD j false = true := hj.resolve_left hji
            obtain ⟨u, hu, hpu⟩ := hI.val j oj t hj' hoj hjt
            have hne : d ≠ t := fun e => by
              subst e
              have hjm : (j, d) ∈ dstR ops fl := mem_dstR.2 ⟨hI.sub j hj', oj, hoj, hjt⟩
              exact hji (congrArg Prod.fst (nodup_snd hnod hjm hdm rfl))
            rw [if_neg hne]
            exact ⟨u, hu, hcl j u _ _ hpu hb⟩
        · rw [hd, put_tmps, if_neg (ht (i, d) hdm)]
          exact hI.bas t ht
        · rw [hd]; exact hI.dfr
        · rw [hset] at hxl hyl
          have hone : ∀ (p q : Nat) (op oq : Oper) (dp dq : Nat), p ≠ q → p ∈ al → q ∈ al → p = i → listed.getD q false = true → ops[p]? = some op → ops[q]? = some oq → op.dst = some dp → oq.dst = some dq → (a.put o.dst v).tmps[dp]? ≠ (a.put o.dst v).tmps[dq]? := by
            clear hxl hyl
            intro p q op oq dp dq hpq hpa hqa hpi hql hop hoq hdp hdq
            rw [hpi] at hop
            rw [ho] at hop
            obtain rfl := Option.some.inj hop
            rw [hd] at hdp
            obtain rfl := Option.some.inj hdp
            obtain ⟨u, hu, hpu⟩ := hI.val q oq dq hql hoq hdq
            have hne : d ≠ dq := fun e => by
              subst e
              have hqm : (q, d) ∈ dstR ops fl := mem_dstR.2 ⟨hI.sub q hql, oq, hoq, hdq⟩
              exact hpq (hpi.trans (congrArg Prod.fst (nodup_snd hnod hdm hqm rfl)))
            rw [hd, put_tmps, put_tmps, if_pos rfl, if_neg hne, if_pos (by rw [hI.siz]; exact hdlt), hu, hva (hpi ▸ hpa)]
            obtain ⟨lo, zs, T, hPA⟩ := hal q hqa
            rw [hPA] at hpu
            obtain ⟨r, rfl, _, hblk⟩ := hpu
            intro he
            have := hblk.lt
            simp only [Option.some.injEq, Value.pointer.injEq, Addr.mk.injEq] at he
            omega
          rcases hxl with hxi | hxl
          · rcases hyl with hyi | hyl
            · exact absurd (hxi.trans hyi.symm) hxy
            · exact hone x y ox oy dx dy hxy hxa hya hxi hyl hox hoy hdx hdy
          · rcases hyl with hyi | hyl
            · exact (hone y x oy ox dy dx (Ne.symm hxy) hya hxa hyi hxl hoy hox hdy hdx).symm
            · have hnd : ∀ (z : Nat) (oz : Oper) (dz : Nat), listed.getD z false = true → ops[z]? = some oz → oz.dst = some dz → d ≠ dz := fun z oz dz hzl hoz hdz e => by
                subst e
                have hzm : (z, d) ∈ dstR ops fl := mem_dstR.2 ⟨hI.sub z hzl, oz, hoz, hdz⟩
                have hzi : z = i := congrArg Prod.fst (nodup_snd hnod hzm hdm rfl)
                subst hzi
                have h1 : listed.getD z true = false := hun
                simp only [Array.getD_eq_getD_getElem?, Array.getElem?_eq_getElem hl, Option.getD_some] at h1 hzl
                rw [h1] at hzl
                cases hzl
              rw [hd, put_tmps, put_tmps, if_neg (hnd x ox dx hxl hox hdx), if_neg (hnd y oy dy hyl hoy hdy)]
              exact hI.sep x y ox oy dx dy hxy hxa hya hxl hyl hox hoy hdx hdy
        · have h2 : listed.toList[i]? = some false := by
            have : listed.getD i true = false := hun
            simp only [Array.getD_eq_getD_getElem?] at this
            rw [Array.getElem?_eq_getElem hl] at this
            rw [Array.getElem?_toList, Array.getElem?_eq_getElem hl]
            simpa using this
          have := count_set_true h2
          rw [Array.toList_setIfInBounds]
          omega
/-- the last operations, one behind another -/
def chainB (ops : Array Oper) : List Nat → Array Bool → Bool
  | [], listed => (Region.ready .any ops listed).isEmpty
  | i :: r, listed => Region.ready .any ops listed == [i] && chainB ops r (listed.setIfInBounds i true)
theorem wpAny_chain : ∀ (l : List Nat) (fuel : Nat) (listed : Array Bool) (a : Act) (w : World), chainB ops l listed = true → l.length = fuel → wpOps P ops Q l a w → wpAny P .any ops Q fuel listed a w
  | [], 0, listed, a, w, hc, _, h => ⟨by simpa [chainB] using hc, h⟩
  | i :: r, fuel + 1, listed, a, w, hc, hf, h => by
    simp only [chainB, Bool.and_eq_true, beq_iff_eq] at hc
    refine ⟨fun h0 => (by rw [hc.1] at h0; cases h0), fun j hj => ?_⟩
    rw [hc.1, List.mem_singleton] at hj
    subst hj
    rw [wpOps_cons] at h
    exact wpOp_mono (fun a w => wpAny_chain r fuel _ a w hc.2 (by simpa using hf)) h
  | [], _ + 1, _, _, _, _, hf, _ => by simp at hf
  | _ :: _, 0, _, _, _, _, hf, _ => by simp at hf
def flK (k m : Nat) : List Bool := List.replicate k true ++ List.replicate m false
/-- the first k operations come first; the others one behind another; no guards -/
def tabR (l : List Oper) (k n : Nat) : Bool :=
  decide (k ≤ l.length) && phaseR l.toArray (flK k (l.length - k)) && dstOkR l.toArray (flK k (l.length - k)) n && (l.take k).all (fun o => o.guard.isNone) && chainB l.toArray (List.range' k (l.length - k)) (flK k (l.length - k)).toArray
theorem flK_get {k m i : Nat} : (flK k m).getD i false = true ↔ i < k := by
  unfold flK
  rw [List.getD_eq_getElem?_getD]
  rcases Nat.lt_or_ge i k with h | h
  · rw [List.getElem?_append_left (by simpa using h)]
    simp [h]
  · rw [List.getElem?_append_right (by simpa using h)]
    simp only [List.length_replicate]
    rcases Nat.lt_or_ge (i - k) m with h' | h'
    · simp [h']; omega
    · simp [h']; omega
theorem flK_count (k m : Nat) : (flK k m).count false = m := by
  unfold flK
  rw [List.count_append]
  simp [List.count_replicate]
/-- a predicate a value, in a list -/
def pvL (L : List (Value → World → Prop)) (i : Nat) : Value → World → Prop := (L[i]?).getD fun _ _ => True
def ClosedLs : List (Value → World → Prop) → Prop
  | [] => True
  | p :: L => (∀ v, Closed (p v)) ∧ ClosedLs L
theorem ClosedLs.get : ∀ {L : List (Value → World → Prop)}, ClosedLs L → ∀ i v, Closed (pvL L i v)
  | [], _, _, _ => fun _ _ _ _ => trivial
  | _ :: _, h, 0, v => h.1 v
  | _ :: L, h, i + 1, v => by
    have := ClosedLs.get h.2 i v
    simpa [pvL] using this
def StepsT (P : Program) (ops : Array Oper) (fl : List Bool) (al : List Nat) (a0 : Act) (W : World) (L : List (Value → World → Prop)) : Nat → Nat → Prop
  | _, 0 => True
  | i, k + 1 => StepT P ops fl al a0 W (pvL L) i ∧ StepsT P ops fl al a0 W L (i + 1) k
theorem StepsT.get {fl : List Bool} {al : List Nat} {a0 : Act} {W : World} {L : List (Value → World → Prop)} : ∀ {k i j : Nat}, StepsT P ops fl al a0 W L i k → i ≤ j → j < i + k → StepT P ops fl al a0 W (pvL L) j
  | 0, _, _, _, h1, h2 => by omega
  | k + 1, i, j, h, h1, h2 => by
    by_cases hij : i = j
    · subst hij; exact h.1
    · exact StepsT.get h.2 (by omega) (by omega)
/-- all that comes first has come: the values are vs -/
def DoneT (L : List (Value → World → Prop)) (al : List Nat) (k : Nat) (vs : Nat → Value) (w : World) : Prop :=
  (∀ i, i < k → pvL L i (vs i) w) ∧ ∀ i j, i < k → j < k → i ≠ j → i ∈ al → j ∈ al → vs i ≠ vs j
def isPA (L : List (Value → World → Prop)) : List Nat → Prop
  | [] => True
  | i :: al => (∃ lo zs T, pvL L i = PA lo zs T) ∧ isPA L al
theorem isPA.get {L : List (Value → World → Prop)} : ∀ {al : List Nat}, isPA L al → ∀ i ∈ al, ∃ lo zs T, pvL L i = PA lo zs T
  | [], _, i, h => by cases h
  | j :: al, h, i, hi => by
    rcases List.mem_cons.1 hi with rfl | hi
    · exact h.1
    · exact isPA.get h.2 i hi
theorem repl_no {n i : Nat} (h : (Array.replicate n false).getD i false = true) : False := by
  rw [Array.getD_eq_getD_getElem?, Array.getElem?_replicate] at h
  split at h <;> simp at h
/-! one operation -/
section
variable {o : Oper} {ρ : Operand → Value} {w : World} {R : Value → World → Prop}
theorem OpTo.value (v : Value) (h : (execOp ρ o).run P w = .ok (.value v) w) (hR : R v w) : OpTo P o ρ w R := .inl ⟨v, w, h, Below.refl _ _, hR⟩
theorem OpTo.make (v : Value) (w' : World) (h : (execOp ρ o).run P w = .ok (.value v) w') (hb : Below w.heap.size w w') (hR : R v w') : OpTo P o ρ w R := .inl ⟨v, w', h, hb, hR⟩
theorem OpTo.move (x : Operand) (ho : o.op = .move x) (hR : R (ρ x) w) : OpTo P o ρ w R := .value _ (by unfold execOp; rw [ho]; rfl) hR
theorem OpTo.call (f : FuncId) (args : Array Value) (g : Operand) (xs : Array Operand) (ts : Array TypeId) (ho : o.op = .call { callee := .value g, args := xs, argTypes := ts }) (hg : ρ g = .func (.func f) #[] #[])
    (eg : ∀ args w, (callFunc f args).run P w = .ok (.enter f args) w) (ha : xs.map ρ = args) (hc : Calls P f args w fun e w' => ∃ v, e = .returned v ∧ Below w.heap.size w w' ∧ R v w') : OpTo P o ρ w R := by
  refine .inr ⟨f, args, ?_, hc⟩
  unfold execOp
  rw [ho]
  simp [resolve, hg, Deferred.ofValue, invoke, eg, ha]
theorem OpTo.alloc {lo : Nat} {zs : Array Value} {T : TypeId} (ho : o.op = .alloc T) (hr : ∀ w, (Instr.alloc T true (.tuple #[])).run P w = .ok (.pointer (some ⟨w.heap.size, 0, none⟩)) (w.alloc (.cells zs T))) (hlo : lo ≤ w.heap.size) :
    OpTo P o ρ w fun v w' => PA lo zs T v w' ∧ v = .pointer (some ⟨w.heap.size, 0, none⟩) :=
  .make _ (w.alloc (.cells zs T)) (by unfold execOp; rw [ho]; simp [hr]) ((Below.refl _ _).alloc (Nat.le_refl _) _) ⟨⟨_, rfl, hlo, Blk.new w zs T⟩, rfl⟩
end
def baseB (ops : Array Oper) (fl : List Bool) (t : Nat) : Bool := (dstR ops fl).all fun p => p.2 != t
def depB (ops : Array Oper) (i d t : Nat) : Bool := (depsR ops i).contains d && (ops[d]?.bind (·.dst)) == some t
theorem eval_lit (l : List Value) (d : List Deferred) (t : Nat) : Act.eval ⟨l.toArray, d⟩ (.tmp t) = (l[t]?).getD undef := by
  simp [Act.eval, Array.getD_eq_getD_getElem?]
theorem eval_of {a : Act} {t : Nat} {v : Value} (h : a.tmps[t]? = some v) : a.eval (.tmp t) = v := by
  simp [Act.eval, Array.getD_eq_getD_getElem?, h]
/-- what is known ahead of an operation -/
structure AtT (ops : Array Oper) (fl : List Bool) (l0 : List Value) (W : World) (PV : Nat → Value → World → Prop) (i : Nat) (ρ : Operand → Value) (w : World) : Prop where
  con : ∀ v, ρ (.const v) = v
  fn : ∀ f, ρ (.func f) = .func (.func f) #[] #[]
  bel : Below W.heap.size W w
  bas : ∀ t, baseB ops fl t = true → ρ (.tmp t) = (l0[t]?).getD undef
  dep : ∀ d t, depB ops i d t = true → ∃ v, ρ (.tmp t) = v ∧ PV d v w
theorem AtT.of {fl : List Bool} {l0 : List Value} {d0 : List Deferred} {W : World} {PV : Nat → Value → World → Prop} {i : Nat} {a : Act} {w : World} (hB : Below W.heap.size W w) (hb : ∀ t, (∀ p ∈ dstR ops fl, p.2 ≠ t) → a.tmps[t]? = (⟨l0.toArray, d0⟩ : Act).tmps[t]?)
    (hd : ∀ d ∈ depsR ops i, ∀ od t, ops[d]? = some od → od.dst = some t → ∃ v, a.tmps[t]? = some v ∧ PV d v w) : AtT ops fl l0 W PV i a.eval w := by
  refine ⟨fun _ => rfl, fun _ => rfl, hB, fun t ht => ?_, fun d t h => ?_⟩
  · have h1 := hb t (fun p hp => by
      have := List.all_eq_true.1 ht p hp
      simpa using this)
    rw [← eval_lit l0 d0 t]
    simp only [Act.eval, Array.getD_eq_getD_getElem?, h1]
  · unfold depB at h
    simp only [Bool.and_eq_true, List.contains_eq_mem, decide_eq_true_eq, beq_iff_eq] at h
    obtain ⟨h1, h2⟩ := h
    cases ho : ops[d]? with
    | none => rw [ho] at h2; simp at h2
    | some od =>
      rw [ho] at h2
      obtain ⟨v, hv, hp⟩ := hd d h1 od t ho (by simpa using h2)
      exact ⟨v, eval_of hv, hp⟩
theorem StepT.q {fl : List Bool} {al : List Nat} {l0 : List Value} {d0 : List Deferred} {W : World} {PV : Nat → Value → World → Prop} {i : Nat} (o : Oper) (ho : ops[i]? = some o) (hi : al.contains i = false)
    (h : ∀ ρ w, AtT ops fl l0 W PV i ρ w → OpTo P o ρ w (PV i)) : StepT P ops fl al ⟨l0.toArray, d0⟩ W PV i := by
  intro o' ho' a w hB hb hd
  rw [ho] at ho'
  obtain rfl := Option.some.inj ho'
  have hn : ¬ i ∈ al := by simpa using hi
  have h1 := h a.eval w (AtT.of hB hb hd)
  rcases h1 with ⟨v, w', hr, hb', hR⟩ | ⟨f, args, hr, hc⟩
  · exact .inl ⟨v, w', hr, hb', hR, fun h => absurd h hn⟩
  · exact .inr ⟨f, args, hr, hc.mono fun e w' ⟨v, he, hb', hR⟩ => ⟨v, he, hb', hR, fun h => absurd h hn⟩⟩
theorem StepT.a {fl : List Bool} {al : List Nat} {l0 : List Value} {d0 : List Deferred} {W : World} {PV : Nat → Value → World → Prop} {i : Nat} (o : Oper) (ho : ops[i]? = some o)
    (h : ∀ ρ w, AtT ops fl l0 W PV i ρ w → OpTo P o ρ w fun v w' => PV i v w' ∧ v = .pointer (some ⟨w.heap.size, 0, none⟩)) : StepT P ops fl al ⟨l0.toArray, d0⟩ W PV i := by
  intro o' ho' a w hB hb hd
  rw [ho] at ho'
  obtain rfl := Option.some.inj ho'
  have h1 := h a.eval w (AtT.of hB hb hd)
  rcases h1 with ⟨v, w', hr, hb', hR⟩ | ⟨f, args, hr, hc⟩
  · exact .inl ⟨v, w', hr, hb', hR.1, fun _ => hR.2⟩
  · exact .inr ⟨f, args, hr, hc.mono fun e w' ⟨v, he, hb', hR⟩ => ⟨v, he, hb', hR.1, fun _ => hR.2⟩⟩
/-- the frame behind them: dl lists operations and their slots by rising slots -/
def mergeS (vs : Nat → Value) : List Value → Nat → List (Nat × Nat) → List Value
  | [], _, _ => []
  | x :: l, _, [] => x :: l
  | x :: l, t, p :: dl => cond (p.2 == t) (vs p.1 :: mergeS vs l (t + 1) dl) (x :: mergeS vs l (t + 1) (p :: dl))
def risB : Nat → List (Nat × Nat) → Bool
  | _, [] => true
  | t, p :: dl => decide (t ≤ p.2) && risB (p.2 + 1) dl
theorem mergeS_get (vs : Nat → Value) : ∀ (l : List Value) (t : Nat) (dl : List (Nat × Nat)), risB t dl = true → ∀ s, (mergeS vs l t dl)[s]? = match dl.find? (fun p => p.2 == t + s) with | some p => if s < l.length then some (vs p.1) else none | none => l[s]?
  | [], _, dl, _, s => by
    unfold mergeS
    split <;> simp
  | x :: l, t, [], _, s => by simp [mergeS]
  | x :: l, t, p :: dl, h, s => by
    simp only [risB, Bool.and_eq_true, decide_eq_true_eq] at h
    have hno : ∀ {u n} {dl : List (Nat × Nat)}, risB n dl = true → u < n → dl.find? (fun p => p.2 == u) = none := by
      intro u n dl
      induction dl generalizing n with
      | nil => intros; rfl
      | cons q dl ih =>
        intro hr hu
        simp only [risB, Bool.and_eq_true, decide_eq_true_eq] at hr
        rw [List.find?_cons, show (q.2 == u) = false by simp; omega]
        exact ih hr.2 (by omega)
    rw [mergeS]
    by_cases hp : p.2 = t
    · rw [show (p.2 == t) = true by simpa using hp, cond_true]
      cases s with
      | zero => simp [hp]
      | succ s =>
        have ih := mergeS_get vs l (t + 1) dl (by rw [← hp]; exact h.2) s
        rw [List.getElem?_cons_succ, ih, List.find?_cons, show (p.2 == t + (s + 1)) = false by simp; omega, show t + 1 + s = t + (s + 1) by omega]
        simp only [List.length_cons, Nat.add_lt_add_iff_right, List.getElem?_cons_succ]
    · rw [show (p.2 == t) = false by simpa using hp, cond_false]
      cases s with
      | zero =>
        rw [List.getElem?_cons_zero, List.find?_cons, show (p.2 == t + 0) = false by simp; omega, hno h.2 (by omega)]
        simp
      | succ s =>
        have ih := mergeS_get vs l (t + 1) (p :: dl) (by simp only [risB, Bool.and_eq_true, decide_eq_true_eq]; exact ⟨by omega, h.2⟩) s
        rw [List.getElem?_cons_succ, ih, show t + 1 + s = t + (s + 1) by omega]
        simp only [List.length_cons, Nat.add_lt_add_iff_right, List.getElem?_cons_succ]
theorem mergeS_len (vs : Nat → Value) : ∀ (l : List Value) (t : Nat) (dl : List (Nat × Nat)), (mergeS vs l t dl).length = l.length
  | [], t, dl => by simp [mergeS]
  | x :: l, t, [] => by simp [mergeS]
  | x :: l, t, p :: dl => by
    rw [mergeS]
    cases (p.2 == t) with
    | true => simp [mergeS_len vs l (t + 1) dl]
    | false => simp [mergeS_len vs l (t + 1) (p :: dl)]
def permB (dl dl' : List (Nat × Nat)) : Bool := risB 0 dl && dl.all (fun p => dl'.contains p) && dl'.all (fun p => dl.contains p) && decide ((dl'.map (·.2)).Nodup)
theorem risB_nodup : ∀ {n : Nat} {dl : List (Nat × Nat)}, risB n dl = true → (dl.map (·.2)).Nodup ∧ ∀ p ∈ dl, n ≤ p.2
  | _, [], _ => ⟨List.nodup_nil, fun p hp => by cases hp⟩
  | n, q :: dl, h => by
    simp only [risB, Bool.and_eq_true, decide_eq_true_eq] at h
    obtain ⟨h1, h2⟩ := risB_nodup h.2
    refine ⟨?_, fun p hp => ?_⟩
    · rw [List.map_cons, List.nodup_cons]
      refine ⟨fun hm => ?_, h1⟩
      obtain ⟨p, hp, he⟩ := List.mem_map.1 hm
      have := h2 p hp
      omega
    · rcases List.mem_cons.1 hp with rfl | hp
      · exact h.1
      · have := h2 p hp
        omega
theorem find_same {dl dl' : List (Nat × Nat)} (hn : (dl.map (·.2)).Nodup) (h : ∀ p ∈ dl, p ∈ dl') (h' : ∀ p ∈ dl', p ∈ dl) (t : Nat) : dl.find? (fun p => p.2 == t) = dl'.find? (fun p => p.2 == t) := by
  cases hf : dl.find? (fun p => p.2 == t) with
  | none =>
    cases hf' : dl'.find? (fun p => p.2 == t) with
    | none => rfl
    | some q =>
      rw [List.find?_eq_none] at hf
      exact absurd (List.find?_some hf') (hf q (h' q (List.mem_of_find?_eq_some hf')))
  | some p =>
    cases hf' : dl'.find? (fun p => p.2 == t) with
    | none =>
      rw [List.find?_eq_none] at hf'
      exact absurd (List.find?_some hf) (hf' p (h p (List.mem_of_find?_eq_some hf)))
    | some q =>
      have e1 : p.2 = t := by simpa using List.find?_some hf
      have e2 : q.2 = t := by simpa using List.find?_some hf'
      rw [nodup_snd hn (List.mem_of_find?_eq_some hf) (h' q (List.mem_of_find?_eq_some hf')) (e1.trans e2.symm)]
theorem putR_merge {vs : Nat → Value} {l0 : List Value} {d0 : List Deferred} {dl dl' : List (Nat × Nat)} (h : permB dl dl' = true) : putR ⟨l0.toArray, d0⟩ dl' vs = ⟨(mergeS vs l0 0 dl).toArray, d0⟩ := by
  unfold permB at h
  simp only [Bool.and_eq_true, decide_eq_true_eq, List.all_eq_true, List.contains_eq_mem] at h
  obtain ⟨⟨⟨h1, h2⟩, h3⟩, h4⟩ := h
  have hn := (risB_nodup h1).1
  obtain ⟨_, k2, k3⟩ := putR_tmps vs dl' ⟨l0.toArray, d0⟩ 0 h4
  have ht : (putR ⟨l0.toArray, d0⟩ dl' vs).tmps = (mergeS vs l0 0 dl).toArray := by
    apply Array.ext_getElem?
    intro t
    rw [(putR_tmps vs dl' ⟨l0.toArray, d0⟩ t h4).1]
    simp only [List.getElem?_toArray]
    rw [mergeS_get vs l0 0 dl h1, Nat.zero_add, find_same hn h2 h3]
    cases dl'.find? (fun p => p.2 == t) with
    | none => simp
    | some p => simp
  cases hq : putR ⟨l0.toArray, d0⟩ dl' vs
  rw [hq] at ht k3
  simp only at ht k3
  rw [ht, k3]
theorem wpAny_tab {l : List Oper} {a0 : Act} {W : World} (k : Nat) (al : List Nat) (L : List (Value → World → Prop)) (hk : tabR l k a0.tmps.size = true)
    (hal : isPA L al) (hcl : ClosedLs L) (hst : StepsT P l.toArray (flK k (l.length - k)) al a0 W L 0 k)
    (hrest : ∀ (vs : Nat → Value) (w : World), Below W.heap.size W w → DoneT L al k vs w → wpList P l.toArray Q (l.drop k) (putR a0 (dstR l.toArray (flK k (l.length - k))) vs) w) : ∀ W1, Below W.heap.size W W1 → wpAny P .any l.toArray Q l.length (Array.replicate l.length false) a0 W1 := by
  intro W1 hW1
  unfold tabR at hk
  simp only [Bool.and_eq_true, decide_eq_true_eq] at hk
  obtain ⟨⟨⟨⟨hkl, hph⟩, hdk⟩, hgd⟩, hch⟩ := hk
  have hdst : ∀ i, i < k → ∃ d, (i, d) ∈ dstR l.toArray (flK k (l.length - k)) := fun i hi => by
    unfold dstOkR at hdk
    simp only [Bool.and_eq_true, decide_eq_true_eq, List.all_eq_true, List.mem_range] at hdk
    have h1 := hdk.1 i (by simp; omega)
    rw [flK_get.2 hi] at h1
    simp only [Bool.not_true, Bool.false_or] at h1
    cases ho : l.toArray[i]? with
    | none => rw [ho] at h1; cases h1
    | some o =>
      rw [ho] at h1
      cases hd : o.dst with
      | none => simp only [hd] at h1; cases h1
      | some d => exact ⟨d, mem_dstR.2 ⟨flK_get.2 hi, o, ho, hd⟩⟩
  refine wpAny_table (fl := flK k (l.length - k)) (al := al) (a0 := a0) (W := W) (PV := pvL L) hph hdk (fun i o hi ho => ?_) (isPA.get hal) (ClosedLs.get hcl) (fun i hi => hst.get (Nat.zero_le _) (by have := flK_get.1 hi; omega)) (fun vs w hb hp hs => ?_) _ _ _ _ ?_ (by simp)
  · have h1 := flK_get.1 hi
    have h2 := List.all_eq_true.1 hgd o (List.mem_of_getElem? (i := i) (by rw [List.getElem?_take_of_lt h1]; simpa using ho))
    simpa using h2
  · refine wpAny_chain (List.range' k (l.length - k)) _ _ _ _ hch (by rw [flK_count]; simp) ?_
    have e := wpOps_eq_wpList (P := P) (ops := l.toArray) (Q := Q) (l.drop k) k (fun j => by simp)
    rw [List.length_drop] at e
    rw [e]
    refine hrest vs w hb ⟨fun i hi => ?_, fun i j hi hj hij hia hja => ?_⟩
    · obtain ⟨d, hd⟩ := hdst i hi
      exact hp _ hd
    · obtain ⟨d, hd⟩ := hdst i hi
      obtain ⟨e, he⟩ := hdst j hj
      exact hs _ hd _ he hij hia hja
  · exact ⟨by simp, fun i hi => (repl_no hi).elim, fun i hi => (repl_no hi).elim, fun i _ _ hi => (repl_no hi).elim, fun _ _ => rfl, rfl, rfl, hW1, fun i _ _ _ _ _ _ _ _ hi => (repl_no hi).elim⟩
theorem wp_region_tab0 {id : Nat} {l : List Oper} {a0 : Act} {W : World} (k : Nat) (al : List Nat) (L : List (Value → World → Prop)) (hm : P.follows .mixedOrders = true) (hk : tabR l k a0.tmps.size = true)
    (hal : isPA L al) (hcl : ClosedLs L) (hst : StepsT P l.toArray (flK k (l.length - k)) al a0 W L 0 k)
    (hrest : ∀ (vs : Nat → Value) (w : World), Below W.heap.size W w → DoneT L al k vs w → wpList P l.toArray Q (l.drop k) (putR a0 (dstR l.toArray (flK k (l.length - k))) vs) w) : (Code.region id l.toArray true).wp P Q a0 W := by
  refine wp_region_any hm ?_
  have := wpAny_tab (P := P) (Q := Q) k al L hk hal hcl hst hrest W.drew (Below.refl _ _).drew
  simpa using this
theorem wp_region_tab {id : Nat} {l : List Oper} {l0 : List Value} {d0 : List Deferred} {W : World} (k : Nat) (al : List Nat) (dl : List (Nat × Nat)) (L : List (Value → World → Prop)) (hm : P.follows .mixedOrders = true) (hk : tabR l k l0.length = true) (hp : permB dl (dstR l.toArray (flK k (l.length - k))) = true)
    (hal : isPA L al) (hcl : ClosedLs L) (hst : StepsT P l.toArray (flK k (l.length - k)) al ⟨l0.toArray, d0⟩ W L 0 k)
    (hrest : ∀ (vs : Nat → Value) (w : World), Below W.heap.size W w → DoneT L al k vs w → wpList P l.toArray Q (l.drop k) ⟨(mergeS vs l0 0 dl).toArray, d0⟩ w) : (Code.region id l.toArray true).wp P Q ⟨l0.toArray, d0⟩ W :=
  wp_region_tab0 k al L hm (by simpa using hk) hal hcl hst fun vs w hb hd => by
    rw [putR_merge hp]
    exact hrest vs w hb hd
/-- the text's order is one of them -/
def textB (ops : Array Oper) : Bool := (List.range ops.size).all fun i => (Region.ready .any ops (flK i (ops.size - i)).toArray).contains i
theorem flK_set {k m : Nat} : (flK k (m + 1)).toArray.setIfInBounds k true = (flK (k + 1) m).toArray := by
  unfold flK
  simp only [List.setIfInBounds_toArray]
  congr 1
  rw [List.set_append, if_neg (by simp)]
  rw [List.length_replicate, Nat.sub_self, List.replicate_succ, List.set_cons_zero, List.replicate_succ', List.append_assoc]
  rfl
theorem wpAny_text (ht : textB ops = true) : ∀ (m k : Nat) (a : Act) (w : World), k + m = ops.size → wpAny P .any ops Q m (flK k m).toArray a w → wpOps P ops Q (List.range' k m) a w
  | 0, _, _, _, _, h => h.2
  | m + 1, k, a, w, hk, h => by
    rw [List.range'_succ, wpOps_cons]
    have h1 := List.all_eq_true.1 ht k (List.mem_range.2 (by omega))
    rw [show ops.size - k = m + 1 by omega, List.contains_eq_mem, decide_eq_true_eq] at h1
    refine wpOp_mono (fun a w h2 => wpAny_text ht m (k + 1) a w (by omega) ?_) (h.2 k h1)
    rw [flK_set] at h2
    exact h2
theorem wp_region_tabF {id : Nat} {l : List Oper} {l0 : List Value} {d0 : List Deferred} {W : World} (k : Nat) (al : List Nat) (dl : List (Nat × Nat)) (L : List (Value → World → Prop)) (ht : textB l.toArray = true) (hk : tabR l k l0.length = true) (hp : permB dl (dstR l.toArray (flK k (l.length - k))) = true)
    (hal : isPA L al) (hcl : ClosedLs L) (hst : StepsT P l.toArray (flK k (l.length - k)) al ⟨l0.toArray, d0⟩ W L 0 k)
    (hrest : ∀ (vs : Nat → Value) (w : World), Below W.heap.size W w → DoneT L al k vs w → wpList P l.toArray Q (l.drop k) ⟨(mergeS vs l0 0 dl).toArray, d0⟩ w) : (Code.region id l.toArray false).wp P Q ⟨l0.toArray, d0⟩ W := by
  refine wp_region ?_
  have h := wpAny_tab (a0 := ⟨l0.toArray, d0⟩) k al L (by simpa using hk) hal hcl hst (fun vs w hb hd => by
    rw [putR_merge hp]
    exact hrest vs w hb hd) W (Below.refl _ _)
  have h2 := wpAny_text ht l.length 0 _ _ (by simp) (by simpa [flK] using h)
  rw [List.range_eq_range']
  simpa using h2
end
end Go.Proofs.YtmlfkceafkhlaaaDoor
