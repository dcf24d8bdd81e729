/- FragFits: what it computes is yes, for every number of a dialect and every program. -/
import Derived.Test.YtfjkclhkobnakaaStaFragFits
import Derived.Test.YtfjkclhkobnakaaFragEq
import Derived.Test.YtfjkclhkobnakaaPx15
import Derived.Test.YtfjkclhkobnakaaPx16
import Derived.Test.YtfjkclhkobnakaaPx17
import Derived.Test.YtfjkclhkobnakaaPx18
import Derived.Test.YtfjkclhkobnakaaPx19
import Derived.Test.YtfjkclhkobnakaaPx7
import Derived.Test.YtfjkclhkobnakaaPx8
namespace Go.Proofs.Ytfjkclhkobnakaa.Pure
open Go.RowKit Go.Proofs.Ytfjkclhkobnakaa.P Go.Proofs.Ytfjkclhkobnakaa.Nest Go.Proofs.YtfjkclhkobnakaaW.PrintWords Go.Proofs.YtfjkclhkobnakaaW.PrintLast Go.Proofs.YtfjkclhkobnakaaW.PrintMore
set_option linter.unusedVariables false
set_option linter.unusedSimpArgs false
theorem femp : (⟨#[]⟩ : ByteArray).toList = ([] : List UInt8) := by kernel_rfl
def fagree (d op : Int) : Bool :=
  match triglyphref24_Word.f 200 d op, frag_Says.f 2 d op with
  | some t, some b => b == (if d = 1 ∧ (op = 10 ∨ op = 45) then true else if t.toList = ([] : List UInt8) then false else if op = 19 then false else if op = 54 then false else if op = 53 then d == 2 else true)
  | _, _ => false
theorem fagree0 : (List.range 54).all (fun i => fagree 0 ((i : Int) + 1)) = true := by kernel_rfl
theorem fagree1 : (List.range 54).all (fun i => fagree 1 ((i : Int) + 1)) = true := by kernel_rfl
theorem fagree2 : (List.range 54).all (fun i => fagree 2 ((i : Int) + 1)) = true := by kernel_rfl
theorem word_tab {d : Int} (hd : d = 0 ∨ d = 1 ∨ d = 2) {op : Int} (h : 1 ≤ op ∧ op ≤ 54) : ∃ (t : ByteArray) (b : Bool), (∀ k, 200 ≤ k → triglyphref24_Word.f k d op = some t) ∧ (∀ k, 200 ≤ k → frag_Says.f k d op = some b) ∧
    b = (if d = 1 ∧ (op = 10 ∨ op = 45) then true else if t.toList = ([] : List UInt8) then false else if op = 19 then false else if op = 54 then false else if op = 53 then d == 2 else true) := by
  have ha : fagree d op = true := by
    have e : ((op - 1).toNat : Int) + 1 = op := by omega
    have hm : (op - 1).toNat ∈ List.range 54 := List.mem_range.2 (by omega)
    rcases hd with rfl | rfl | rfl
    · have := List.all_eq_true.1 fagree0 _ hm; rwa [e] at this
    · have := List.all_eq_true.1 fagree1 _ hm; rwa [e] at this
    · have := List.all_eq_true.1 fagree2 _ hm; rwa [e] at this
  unfold fagree at ha
  cases hw : triglyphref24_Word.f 200 d op with
  | none => rw [hw] at ha; simp at ha
  | some t =>
    cases hs : frag_Says.f 2 d op with
    | none => rw [hw, hs] at ha; simp at ha
    | some b =>
      rw [hw, hs] at ha
      exact ⟨t, b, fun k hk => at_rounds (g := fun k => triglyphref24_Word.f k d op) (fun k => triglyphref24_Word.mono _ _ k) hk hw, fun k hk => at_rounds (frag_Says.mono d op) (show 2 ≤ k by omega) hs, by simpa using ha⟩
/-- A node's own reason: the reference's, and the package's way past it. -/
theorem comb_z2 {a : FgT} (h : good a) : comb a z3 = a := by
  unfold comb
  by_cases c : a.1 = 0
  · rw [if_pos c, h c]
  · rw [if_neg c]
def rsO (p r : Int) : FgT := if r > 0 then (13, p, r) else z3
theorem rsO_good (p r : Int) : good (rsO p r) := by
  unfold rsO
  by_cases c : r > 0
  · rw [if_pos c]; exact good_rej p r
  · rw [if_neg c]; exact good_z
theorem prim_own {d : Int} (hd : d = 0 ∨ d = 1 ∨ d = 2) {x : S28} (h0 : x.f0 = 21) (hw : 1 ≤ x.f1 ∧ x.f1 ≤ 54) : ∃ r : Int, (∀ k, 200 ≤ k → ∀ fs, good fs → primF k d x fs = some (comb fs (rsO x.f5 r))) ∧
    ∀ k, 200 ≤ k → triglyphref24_Reason.f k d x.f0 x.f1 x.f2 x.f3.f0 x.f3.f1 x.f4 x.f5 = some r := by
  obtain ⟨t, b, ht, hb, e⟩ := word_tab hd hw
  by_cases c1 : x.f1 = 19 ∨ x.f1 = 54
  · refine ⟨1, fun k _ fs hf => ?_, fun k _ => ?_⟩
    · unfold primF; rw [if_pos c1]; rfl
    · unfold triglyphref24_Reason.f
      rw [if_pos h0]
      rcases c1 with c | c
      · rw [if_pos c]
      · rw [if_neg (by omega), if_pos c]
  by_cases c2 : x.f1 = 53 ∧ d ≠ 2
  · refine ⟨0, fun k _ fs hf => ?_, fun k _ => ?_⟩
    · unfold primF; rw [if_neg c1, if_pos c2, show rsO x.f5 0 = z3 from rfl, comb_z2 hf]
    · unfold triglyphref24_Reason.f
      rw [if_pos h0, if_neg (by omega), if_neg (by omega), if_neg (by omega), if_neg (by omega), if_pos c2.1, if_neg c2.2]
  have hbt : b = true ↔ ((d = 1 ∧ (x.f1 = 10 ∨ x.f1 = 45)) ∨ ¬ t.toList = ([] : List UInt8)) := by
    rw [e]
    by_cases a1 : d = 1 ∧ (x.f1 = 10 ∨ x.f1 = 45)
    · rw [if_pos a1]; simp [a1]
    · rw [if_neg a1]
      by_cases a2 : t.toList = ([] : List UInt8)
      · rw [if_pos a2]
        constructor
        · intro q; cases q
        · intro q; rcases q with q | q
          · exact absurd q a1
          · exact absurd a2 q
      · rw [if_neg a2, if_neg (by omega), if_neg (by omega)]
        by_cases a3 : x.f1 = 53
        · rw [if_pos a3]
          have : d = 2 := by omega
          simp [this, a2]
        · rw [if_neg a3]; simp [a2]
  have hr : ∀ k, 200 ≤ k → triglyphref24_Reason.f k d x.f0 x.f1 x.f2 x.f3.f0 x.f3.f1 x.f4 x.f5 = some (if d = 1 ∧ (x.f1 = 10 ∨ x.f1 = 45) then 0 else if t.toList = ([] : List UInt8) then 2 else 0) := by
    intro k hk
    have h1 := ht k hk
    unfold triglyphref24_Reason.f
    rw [if_pos h0, if_neg (by omega), if_neg (by omega)]
    simp only [h1, Option.bind_some, femp, ite_self]
    by_cases a10 : x.f1 = 10
    · rw [if_pos a10]
      by_cases a1 : d = 1
      · rw [if_pos a1, if_pos ⟨a1, .inl a10⟩]
      · rw [if_neg a1, if_neg (show ¬ (d = 1 ∧ (x.f1 = 10 ∨ x.f1 = 45)) from fun q => a1 q.1)]
        by_cases a2 : t.toList = ([] : List UInt8)
        · rw [if_pos a2, if_pos a2]
        · rw [if_neg a2, if_neg a2]
    · rw [if_neg a10]
      by_cases a45 : x.f1 = 45
      · rw [if_pos a45]
        by_cases a1 : d = 1
        · rw [if_pos a1, if_pos ⟨a1, .inr a45⟩]
        · rw [if_neg a1, if_neg (show ¬ (d = 1 ∧ (x.f1 = 10 ∨ x.f1 = 45)) from fun q => a1 q.1)]
          by_cases a2 : t.toList = ([] : List UInt8)
          · rw [if_pos a2, if_pos a2]
          · rw [if_neg a2, if_neg a2]
      · rw [if_neg a45, if_neg (show ¬ (d = 1 ∧ (x.f1 = 10 ∨ x.f1 = 45)) from fun q => by omega)]
        by_cases a53 : x.f1 = 53
        · rw [if_pos a53, if_pos (by omega)]
          by_cases a2 : t.toList = ([] : List UInt8)
          · rw [if_pos a2, if_pos a2]
          · rw [if_neg a2, if_neg a2]
        · rw [if_neg a53]
          by_cases a2 : t.toList = ([] : List UInt8)
          · rw [if_pos a2, if_pos a2]
          · rw [if_neg a2, if_neg a2]
  refine ⟨_, fun k hk fs hf => ?_, hr⟩
  unfold primF
  rw [if_neg c1, if_neg c2, hb k hk, Option.bind_some]
  cases hbb : b with
  | true =>
    rw [if_pos rfl]
    have := hbt.1 hbb
    by_cases a1 : d = 1 ∧ (x.f1 = 10 ∨ x.f1 = 45)
    · rw [if_pos a1, show rsO x.f5 0 = z3 from rfl, comb_z2 hf]
    · rw [if_neg a1, if_neg (this.resolve_left a1), show rsO x.f5 0 = z3 from rfl, comb_z2 hf]
  | false =>
    rw [if_neg (by decide)]
    have hn : ¬ ((d = 1 ∧ (x.f1 = 10 ∨ x.f1 = 45)) ∨ ¬ t.toList = ([] : List UInt8)) := fun q => by rw [hbt.2 q] at hbb; cases hbb
    rw [if_neg (fun q => hn (.inl q)), if_pos (Decidable.byContradiction fun q => hn (.inr q))]
    rfl
abbrev fkid (x : S28) (i : Int) : S28 := rd_T28 x.f4 i
def redB (y : S28) : Bool := (y.f0 == 21) && ((y.f1 != 21) && ((y.f1 != 23) && ((y.f1 != 24) && (y.f1 != 25))))
theorem red_eq (y : S28) : (if y.f0 = 21 then (if y.f1 = 21 then (some 0) else (if y.f1 = 23 then (some 0) else (if y.f1 = 24 then (some 0) else (if y.f1 = 25 then (some 0) else (some 3))))) else (some 0)) = some (if redB y = true then (3 : Int) else 0) := by
  unfold redB
  by_cases e0 : y.f0 = 21
  · rw [if_pos e0, show (y.f0 == 21) = true by simpa using e0]
    by_cases e1 : y.f1 = 21
    · rw [if_pos e1]; simp [e1]
    · rw [if_neg e1]
      by_cases e2 : y.f1 = 23
      · rw [if_pos e2]; simp [e2]
      · rw [if_neg e2]
        by_cases e3 : y.f1 = 24
        · rw [if_pos e3]; simp [e3]
        · rw [if_neg e3]
          by_cases e4 : y.f1 = 25
          · rw [if_pos e4]; simp [e4]
          · rw [if_neg e4]; simp [e1, e2, e3, e4]
  · rw [if_neg e0]; simp [e0]
theorem some_if {c : Bool} {fs : FgT} (hf : good fs) (p w : Int) : (some (if c = true then fgRej fs p w else fs)) = some (comb fs (if c = true then (13, p, w) else z3)) := by
  cases c with
  | true => rfl
  | false => rw [if_neg (by decide), if_neg (by decide), comb_z2 hf]
/-- What the reference says first of a node: its own reason, or what is below it. -/
theorem first_head {d : Int} (hd : d = 0 ∨ d = 1 ∨ d = 2) {x : S28} (hw : wfN x) : ∃ o : FgT, good o ∧ (∀ k, 200 ≤ k → ∀ fs, good fs → ((if x.f0 = 21 then primF k d x fs else some fs).bind fun f1 => plainV d x f1) = some (comb fs o)) ∧
    ∀ k, 200 ≤ k → triglyphref24_first.f (k + 3) d x.f0 x.f1 x.f2 x.f3.f0 x.f3.f1 x.f4 x.f5 = if o.1 = 0 then triglyphref24_first.l0 k d 0 x.f0 x.f1 x.f2 x.f3.f0 x.f3.f1 x.f4 x.f5 else some o := by
  obtain ⟨w6, w5, w1, wp, wk⟩ := wf_of hw
  have al : ∀ (h : ¬ (d = 0 ∧ x.f0 = 5)), triglyphref24_alone.f d x.f0 x.f1 x.f2 x.f3.f0 x.f3.f1 x.f4 x.f5 = some false := by
    intro h
    unfold triglyphref24_alone.f
    by_cases c : d = 0
    · rw [if_pos c, if_neg (fun q => h ⟨c, q⟩)]
    · rw [if_neg c]
  have j0 : ∀ k, triglyphref24_first.j0 (k + 2) d false x.f0 x.f1 x.f2 x.f3.f0 x.f3.f1 x.f4 x.f5 = triglyphref24_first.l0 k d 0 x.f0 x.f1 x.f2 x.f3.f0 x.f3.f1 x.f4 x.f5 := by
    intro k
    rw [triglyphref24_first.j0, if_neg (by decide), triglyphref24_first.j1]
  have fin : ∀ (r : Int), ¬ (d = 0 ∧ x.f0 = 5) → ¬ (d = 2 ∧ x.f0 = 6) → (∀ k, 200 ≤ k → triglyphref24_Reason.f k d x.f0 x.f1 x.f2 x.f3.f0 x.f3.f1 x.f4 x.f5 = some r) → ∀ k, 200 ≤ k → triglyphref24_first.f (k + 3) d x.f0 x.f1 x.f2 x.f3.f0 x.f3.f1 x.f4 x.f5 = if (rsO x.f5 r).1 = 0 then triglyphref24_first.l0 k d 0 x.f0 x.f1 x.f2 x.f3.f0 x.f3.f1 x.f4 x.f5 else some (rsO x.f5 r) := by
    intro r h1 h2 hr k hk
    rw [triglyphref24_first.f, al h1, Option.bind_some, if_neg (by decide), hr (k + 2) (by omega), Option.bind_some]
    unfold rsO
    by_cases c : r > 0
    · rw [if_pos c, if_pos c]
      exact (if_neg (fun h : (13 : Int) = 0 => by cases h)).symm
    · rw [if_neg c, if_neg c, if_pos (show z3.1 = 0 from rfl)]
      by_cases c2 : d = 2
      · rw [if_pos c2, if_neg (fun q => h2 ⟨c2, q⟩)]; exact j0 k
      · rw [if_neg c2]; exact j0 k
  by_cases c21 : x.f0 = 21
  · obtain ⟨r, hp, hr⟩ := prim_own hd c21 (wp c21)
    refine ⟨rsO x.f5 r, rsO_good _ _, fun k hk fs hf => ?_, fin r (by omega) (by omega) hr⟩
    rw [if_pos c21, hp k hk fs hf, Option.bind_some]
    unfold plainV behindV
    by_cases c0 : d = 0
    · rw [if_pos c0, if_neg (by omega)]
    · rw [if_neg c0]
      by_cases c2 : d = 2
      · rw [if_pos c2, if_neg (by omega), if_neg (by omega), if_neg (by omega), if_neg (by omega), if_neg (by omega)]
      · rw [if_neg c2]
  simp only [if_neg c21, Option.bind_some]
  rcases hd with rfl | rfl | rfl
  · -- APL
    by_cases c5 : x.f0 = 5
    rotate_left
    · refine ⟨z3, good_z, fun k hk fs hf => ?_, ?_⟩
      · unfold plainV behindV
        rw [if_pos rfl, if_neg c5, comb_z2 hf]
      · exact fin 0 (fun q => c5 q.2) (by omega) (fun k hk => by unfold triglyphref24_Reason.f; rw [if_neg c21, if_neg (by decide)])
    have hl := w5 c5
    have hm : fkid x 0 ∈ x.f4 := by
      match hx : x.f4, hl with
      | [y, z], _ => unfold fkid; rw [hx]; exact List.mem_cons_self
    have hk35 := (wf_of (wk _ hm)).2.2.1
    by_cases c35 : (fkid x 0).f0 = 35
    rotate_left
    · refine ⟨z3, good_z, fun k hk fs hf => ?_, fun k hk => ?_⟩
      · unfold plainV behindV
        rw [if_pos rfl, if_pos c5, if_pos (by omega), if_neg c35, comb_z2 hf]
      · have ha : triglyphref24_alone.f 0 x.f0 x.f1 x.f2 x.f3.f0 x.f3.f1 x.f4 x.f5 = some false := by
          unfold triglyphref24_alone.f
          rw [if_pos rfl, if_pos c5, if_pos (by omega), if_neg c35]
        have hr : triglyphref24_Reason.f (k + 2) 0 x.f0 x.f1 x.f2 x.f3.f0 x.f3.f1 x.f4 x.f5 = some 0 := by unfold triglyphref24_Reason.f; rw [if_neg c21, if_neg (by decide)]
        rw [triglyphref24_first.f, ha, Option.bind_some, if_neg (by decide), hr, Option.bind_some, if_neg (by decide), if_neg (by decide), if_pos (show z3.1 = 0 from rfl)]
        exact j0 k
    have hl2 : (rd_T28 x.f4 0).f4.length = 1 := hk35 (by omega)
    by_cases cc : (fkid (fkid x 0) 0).f0 = 21 ∧ ((fkid (fkid x 0) 0).f1 = 50 ∨ (fkid (fkid x 0) 0).f1 = 51)
    · refine ⟨(13, (fkid x 0).f5, 7), good_rej _ _, fun k hk fs hf => ?_, fun k hk => ?_⟩
      · unfold plainV behindV
        rw [if_pos rfl, if_pos c5, if_pos (by omega), if_pos c35, if_pos (by omega), if_pos cc]
        rfl
      · have ha : triglyphref24_alone.f 0 x.f0 x.f1 x.f2 x.f3.f0 x.f3.f1 x.f4 x.f5 = some true := by
          unfold triglyphref24_alone.f
          rw [if_pos rfl, if_pos c5, if_pos (by omega), if_pos c35, if_pos (by omega), if_pos cc.1]
          rcases cc.2 with q | q
          · rw [if_pos q]
          · rw [if_neg (show ¬ (fkid (fkid x 0) 0).f1 = 50 from by omega)]
            congr 1
            simpa using q
        rw [triglyphref24_first.f, ha, Option.bind_some, if_pos rfl, if_pos (by omega)]
        exact (if_neg (fun h : (13 : Int) = 0 => by cases h)).symm
    · refine ⟨z3, good_z, fun k hk fs hf => ?_, fun k hk => ?_⟩
      · unfold plainV behindV
        rw [if_pos rfl, if_pos c5, if_pos (by omega), if_pos c35, if_pos (by omega), if_neg cc, comb_z2 hf]
      · have ha : triglyphref24_alone.f 0 x.f0 x.f1 x.f2 x.f3.f0 x.f3.f1 x.f4 x.f5 = some false := by
          unfold triglyphref24_alone.f
          rw [if_pos rfl, if_pos c5, if_pos (by omega), if_pos c35, if_pos (by omega)]
          by_cases q : (fkid (fkid x 0) 0).f0 = 21
          · rw [if_pos q, if_neg (fun z => cc ⟨q, .inl z⟩)]
            congr 1
            simpa using fun z => cc ⟨q, .inr z⟩
          · rw [if_neg q]
        have hr : triglyphref24_Reason.f (k + 2) 0 x.f0 x.f1 x.f2 x.f3.f0 x.f3.f1 x.f4 x.f5 = some 0 := by unfold triglyphref24_Reason.f; rw [if_neg c21, if_neg (by decide)]
        rw [triglyphref24_first.f, ha, Option.bind_some, if_neg (by decide), hr, Option.bind_some, if_neg (by decide), if_neg (by decide), if_pos (show z3.1 = 0 from rfl)]
        exact j0 k
  · -- J
    refine ⟨z3, good_z, fun k hk fs hf => ?_, ?_⟩
    · unfold plainV
      rw [if_neg (by decide), if_neg (by decide), comb_z2 hf]
    · exact fin 0 (by omega) (by omega) (fun k hk => by unfold triglyphref24_Reason.f; rw [if_neg c21, if_neg (by decide)])
  · -- K
    have rs : ∀ (r : Int), ¬ x.f0 = 6 → (∀ fs, good fs → plainV 2 x fs = some (comb fs (rsO x.f5 r))) → (∀ k, 200 ≤ k → triglyphref24_Reason.f k 2 x.f0 x.f1 x.f2 x.f3.f0 x.f3.f1 x.f4 x.f5 = some r) → ∃ o : FgT, good o ∧ (∀ k, 200 ≤ k → ∀ fs, good fs → plainV 2 x fs = some (comb fs o)) ∧
        ∀ k, 200 ≤ k → triglyphref24_first.f (k + 3) 2 x.f0 x.f1 x.f2 x.f3.f0 x.f3.f1 x.f4 x.f5 = if o.1 = 0 then triglyphref24_first.l0 k 2 0 x.f0 x.f1 x.f2 x.f3.f0 x.f3.f1 x.f4 x.f5 else some o :=
      fun r h6 hp hr => ⟨rsO x.f5 r, rsO_good _ _, fun k _ fs hf => hp fs hf, fin r (by omega) (fun q => h6 q.2) hr⟩
    by_cases c6 : x.f0 = 6
    · have hl := w6 c6
      have hr : ∀ k, triglyphref24_Reason.f k 2 x.f0 x.f1 x.f2 x.f3.f0 x.f3.f1 x.f4 x.f5 = some 0 := by
        intro k
        unfold triglyphref24_Reason.f
        rw [if_neg c21, if_pos rfl, if_neg (by omega), if_neg (by omega), if_neg (by omega), if_neg (by omega), if_neg (by omega), if_neg (by omega)]
      have hf1 : ∀ k, triglyphref24_first.f (k + 3) 2 x.f0 x.f1 x.f2 x.f3.f0 x.f3.f1 x.f4 x.f5 = (if (fkid x 0).f0 = 21 then (triglyphref24_first.j0 (k + 2) 2 ((fkid x 0).f1 == 41) x.f0 x.f1 x.f2 x.f3.f0 x.f3.f1 x.f4 x.f5) else (triglyphref24_first.j0 (k + 2) 2 false x.f0 x.f1 x.f2 x.f3.f0 x.f3.f1 x.f4 x.f5)) := by
        intro k
        rw [triglyphref24_first.f, al (by omega), Option.bind_some, if_neg (by decide), hr (k + 2), Option.bind_some, if_neg (by decide), if_pos rfl, if_pos c6, if_pos (by omega)]
      have hpl : ∀ fs, plainV 2 x fs = some (if ((fkid x 0).f0 == 21) && (((fkid x 0).f1 == 41) && (((fkid x 1).f0 != 1) || (((fkid x 1).f3.f0.length : Int) == 0))) then fgRej fs (fkid x 1).f5 4 else fs) := by
        intro fs
        unfold plainV
        rw [if_neg (by decide), if_pos rfl, if_neg (by omega), if_neg (by omega), if_neg (by omega), if_neg (by omega), if_pos c6, if_pos (by omega)]
      by_cases e0 : (fkid x 0).f0 = 21
      rotate_left
      · refine ⟨z3, good_z, fun k hk fs hf => ?_, fun k hk => ?_⟩
        · rw [hpl, show ((fkid x 0).f0 == 21) = false by simpa using e0, Bool.false_and, if_neg (by decide), comb_z2 hf]
        · rw [hf1, if_neg e0, if_pos (show z3.1 = 0 from rfl)]; exact j0 k
      by_cases e1 : (fkid x 0).f1 = 41
      rotate_left
      · refine ⟨z3, good_z, fun k hk fs hf => ?_, fun k hk => ?_⟩
        · rw [hpl, show ((fkid x 0).f1 == 41) = false by simpa using e1, Bool.false_and, Bool.and_false, if_neg (by decide), comb_z2 hf]
        · rw [hf1, if_pos e0, show ((fkid x 0).f1 == 41) = false by simpa using e1, if_pos (show z3.1 = 0 from rfl)]; exact j0 k
      have b0 : ((fkid x 0).f0 == 21) = true := by simpa using e0
      have b1 : ((fkid x 0).f1 == 41) = true := by simpa using e1
      have hj : ∀ k, triglyphref24_first.j0 (k + 2) 2 true x.f0 x.f1 x.f2 x.f3.f0 x.f3.f1 x.f4 x.f5 = (if (fkid x 1).f0 = 1 then (if ((fkid x 1).f3.f0.length : Int) = 0 then (some (13, (fkid x 1).f5, 4)) else (triglyphref24_first.l0 k 2 0 x.f0 x.f1 x.f2 x.f3.f0 x.f3.f1 x.f4 x.f5)) else (some (13, (fkid x 1).f5, 4))) := by
        intro k
        rw [triglyphref24_first.j0, if_pos rfl, if_pos (by omega), triglyphref24_first.j1]
      by_cases e2 : (fkid x 1).f0 = 1
      rotate_left
      · refine ⟨(13, (fkid x 1).f5, 4), good_rej _ _, fun k hk fs hf => ?_, fun k hk => ?_⟩
        · rw [hpl, b0, b1, show ((fkid x 1).f0 != 1) = true by simpa using e2, Bool.true_and, Bool.true_and, Bool.true_or, if_pos rfl]; rfl
        · rw [hf1, if_pos e0, b1, hj, if_neg e2]; exact (if_neg (fun h : (13 : Int) = 0 => by cases h)).symm
      have b2 : ((fkid x 1).f0 != 1) = false := by simpa using e2
      by_cases e3 : ((fkid x 1).f3.f0.length : Int) = 0
      · refine ⟨(13, (fkid x 1).f5, 4), good_rej _ _, fun k hk fs hf => ?_, fun k hk => ?_⟩
        · rw [hpl, b0, b1, b2, show (((fkid x 1).f3.f0.length : Int) == 0) = true by simpa using e3, Bool.true_and, Bool.true_and, Bool.false_or, if_pos rfl]; rfl
        · rw [hf1, if_pos e0, b1, hj, if_pos e2, if_pos e3]; exact (if_neg (fun h : (13 : Int) = 0 => by cases h)).symm
      · refine ⟨z3, good_z, fun k hk fs hf => ?_, fun k hk => ?_⟩
        · rw [hpl, b0, b1, b2, show (((fkid x 1).f3.f0.length : Int) == 0) = false by simpa using e3, Bool.true_and, Bool.true_and, Bool.false_or, if_neg (by decide), comb_z2 hf]
        · rw [hf1, if_pos e0, b1, hj, if_pos e2, if_neg e3, if_pos (show z3.1 = 0 from rfl)]
    by_cases c32 : x.f0 = 32 ∨ x.f0 = 34
    · refine rs 9 c6 (fun fs hf => ?_) (fun k hk => ?_)
      · unfold plainV; rw [if_neg (by decide), if_pos rfl, if_pos c32]; rfl
      · unfold triglyphref24_Reason.f
        rw [if_neg c21, if_pos rfl]
        by_cases q : x.f0 = 32
        · rw [if_pos q]
        · rw [if_neg q, if_pos (by omega)]
    by_cases c35 : x.f0 = 35
    · refine rs 7 c6 (fun fs hf => ?_) (fun k hk => ?_)
      · unfold plainV; rw [if_neg (by decide), if_pos rfl, if_neg c32, if_pos c35]; rfl
      · unfold triglyphref24_Reason.f
        rw [if_neg c21, if_pos rfl, if_neg (by omega), if_neg (by omega), if_pos c35]
    by_cases c25 : x.f0 = 25
    · refine rs 8 c6 (fun fs hf => ?_) (fun k hk => ?_)
      · unfold plainV; rw [if_neg (by decide), if_pos rfl, if_neg c32, if_neg c35, if_pos c25]; rfl
      · unfold triglyphref24_Reason.f
        rw [if_neg c21, if_pos rfl, if_neg (by omega), if_neg (by omega), if_neg c35, if_pos c25]
    by_cases c31 : x.f0 = 31 ∨ x.f0 = 33
    · have hl := w1 (by omega)
      refine rs (if redB (fkid x 0) = true then 3 else 0) c6 (fun fs hf => ?_) (fun k hk => ?_)
      · unfold plainV; rw [if_neg (by decide), if_pos rfl, if_neg c32, if_neg c35, if_neg c25, if_pos c31, if_pos (by omega)]
        have := some_if (c := redB (fkid x 0)) hf x.f5 3
        unfold redB at this
        refine this.trans ?_
        show some (comb fs (if redB (fkid x 0) = true then (13, x.f5, 3) else z3)) = _
        cases redB (fkid x 0) <;> rfl
      · unfold triglyphref24_Reason.f
        rw [if_neg c21, if_pos rfl, if_neg (by omega), if_neg (by omega), if_neg c35, if_neg c25]
        by_cases q : x.f0 = 31
        · rw [if_pos q, if_pos (by omega)]; exact red_eq (fkid x 0)
        · rw [if_neg q, if_pos (by omega), if_pos (by omega)]; exact red_eq (fkid x 0)
    · refine rs 0 c6 (fun fs hf => ?_) (fun k hk => ?_)
      · unfold plainV; rw [if_neg (by decide), if_pos rfl, if_neg c32, if_neg c35, if_neg c25, if_neg c31, if_neg c6, show rsO x.f5 0 = z3 from rfl, comb_z2 hf]
      · unfold triglyphref24_Reason.f
        rw [if_neg c21, if_pos rfl, if_neg (by omega), if_neg (by omega), if_neg c35, if_neg c25, if_neg (by omega), if_neg (by omega)]
theorem nds_uniq {d : Int} {l : List S28} {a b : FgT} (h1 : NdsA d l a) (h2 : NdsA d l b) : a = b := by
  obtain ⟨_, K1, e1⟩ := h1
  obtain ⟨_, K2, e2⟩ := h2
  have r1 := e1 (K1 + K2) (by omega) z3 good_z
  rw [e2 (K1 + K2) (by omega) z3 good_z, comb_z, comb_z] at r1
  exact (Option.some.inj r1).symm
def FsE (d : Int) (y : S28) : Prop := ∀ a, NdA d y a → ∃ K, ∀ k, K ≤ k → triglyphref24_first.f k d y.f0 y.f1 y.f2 y.f3.f0 y.f3.f1 y.f4 y.f5 = some a
theorem first_l0 {d : Int} (hd : d = 0 ∨ d = 1 ∨ d = 2) (x0 x1 : Int) (x2 : ByteArray) (x3 : List Int) (x4 : List S57) (x6 : Int) (rest : List S28) : ∀ (done : List S28) (b : FgT), (∀ y ∈ rest, wfN y ∧ FsE d y) → NdsA d rest b → (done ++ rest).length ≤ 4000 →
    ∃ K, ∀ k, K ≤ k → triglyphref24_first.l0 k d (done.length : Int) x0 x1 x2 x3 x4 (done ++ rest) x6 = some b := by
  induction rest with
  | nil =>
    intro done b _ hb hl
    refine ⟨1, fun k hk => ?_⟩
    obtain ⟨k, rfl, _⟩ := succ_of hk
    rw [nds_uniq hb (nodes_nil d)]
    simp only [triglyphref24_first.l0, List.append_nil]
    rw [if_neg (by omega)]
    rfl
  | cons y rest ih =>
    intro done b hy hb hl
    have hs : done ++ y :: rest = (done ++ [y]) ++ rest := by simp
    have hlen : ((done ++ y :: rest).length : Int) = done.length + 1 + rest.length := by simp; omega
    have hl2 : done.length + 1 + rest.length ≤ 4000 := by simp at hl; omega
    obtain ⟨a, ha⟩ := node_ev hd y (hy y List.mem_cons_self).1
    obtain ⟨c, hc⟩ := nodes_ev hd rest (wfNs_iff.2 (fun z hz => (hy z (List.mem_cons_of_mem _ hz)).1))
    rw [nds_uniq hb (nodes_cons ha hc)]
    obtain ⟨K1, h1⟩ := (hy y List.mem_cons_self).2 a ha
    obtain ⟨K, hK⟩ := ih (done ++ [y]) c (fun z hz => hy z (List.mem_cons_of_mem _ hz)) hc (by rw [← hs]; exact hl)
    refine ⟨K1 + K + 1, fun k hk => ?_⟩
    obtain ⟨k, rfl, hk2⟩ := succ_of hk
    simp only [triglyphref24_first.l0]
    rw [if_pos (by omega), if_pos (by omega), rdN_mid, h1 k (by omega), Option.bind_some]
    unfold comb
    by_cases q : a.1 = 0
    · rw [if_pos q, if_pos q, wrap_next _ y (by omega), hs]
      exact hK k (by omega)
    · rw [if_neg q, if_neg q]
mutual
theorem first_ev {d : Int} (hd : d = 0 ∨ d = 1 ∨ d = 2) : ∀ x : S28, wfN x → szN x ≤ 4000 → FsE d x
  | ⟨x0, x1, x2, ⟨x3, x4⟩, ks, x6⟩, hw, hz => by
    intro a ha
    have hk := hw
    rw [wfN] at hk
    rw [szN] at hz
    have hl := szNs_len ks
    obtain ⟨b, hb⟩ := nodes_ev hd ks hk.2.2.2.2
    obtain ⟨o, go, h1, h2⟩ := first_head hd hw
    have hkid := firsts_ev hd ks hk.2.2.2.2 (by omega)
    obtain ⟨K1, k1⟩ := first_l0 hd x0 x1 x2 x3 x4 x6 ks [] b (fun y hy => ⟨wfNs_iff.1 hk.2.2.2.2 y hy, hkid y hy⟩) hb (by rw [List.nil_append]; omega)
    have ea : a = comb o b := by
      obtain ⟨_, K2, e2⟩ := ha
      obtain ⟨_, K3, e3⟩ := hb
      have r := e2 (K2 + K3 + 200) (by omega) z3 good_z
      have r1 := h1 (K2 + K3 + 200) (by omega) z3 good_z
      rw [comb_z] at r r1
      dsimp only at r1
      obtain ⟨f1, q1, q2⟩ := Option.bind_eq_some_iff.1 r1
      rw [nodeV, q1, Option.bind_some, q2, Option.bind_some, e3 _ (by omega) o go] at r
      exact (Option.some.inj r).symm
    refine ⟨K1 + 203, fun k hk => ?_⟩
    obtain ⟨j, rfl⟩ : ∃ j, k = j + 3 := ⟨k - 3, by omega⟩
    have e := h2 j (by omega)
    dsimp only at e ⊢
    rw [e, ea]
    unfold comb
    by_cases q : o.1 = 0
    · rw [if_pos q, if_pos q]
      exact k1 j (by omega)
    · rw [if_neg q, if_neg q]
theorem firsts_ev {d : Int} (hd : d = 0 ∨ d = 1 ∨ d = 2) : ∀ l : List S28, wfNs l → szNs l ≤ 4000 → ∀ y ∈ l, FsE d y
  | [], _, _, _, hy => nomatch hy
  | x :: xs, h, hz, y, hy => by
    rw [wfNs] at h
    rw [szNs] at hz
    have := szN_pos x
    have := szNs_pos xs
    rcases List.mem_cons.1 hy with e | hy
    · rw [e]; exact first_ev hd x h.1 (by omega)
    · exact firsts_ev hd xs h.2 (by omega) y hy
end
theorem FragFits : FragFits.Pure := by
  intro a0 x0 x1 x2 s c ks p hr hok
  obtain ⟨K1, b, hb, k1⟩ := light_eq ⟨x0, x1, x2, ⟨s, c⟩, ks, p⟩ hok
  dsimp only at k1
  cases b with
  | false =>
    refine ⟨K1 + 60, ?_⟩
    unfold triglyphlaw24_FragFits.f
    rw [k1 _ (by omega), Option.bind_some, if_neg (by decide), fworks_eq _ (by omega)]
    rfl
  | true =>
    have hz := hb rfl
    have both : (∃ (K : Nat) (v : FgT), ∀ k, K ≤ k → frag_Fits.f k a0 x0 x1 x2 s c ks p = some v ∧ triglyphref24_Fits.f k a0 x0 x1 x2 s c ks p = some v) → ∃ k, triglyphlaw24_FragFits.f k a0 x0 x1 x2 s c ks p = some true := by
      rintro ⟨K, v, h⟩
      refine ⟨K1 + K + 60, ?_⟩
      obtain ⟨e1, e2⟩ := h (K1 + K + 60) (by omega)
      unfold triglyphlaw24_FragFits.f
      rw [k1 _ (by omega), Option.bind_some, if_pos rfl, e1, Option.bind_some, e2, Option.bind_some, if_pos (by simp), fworks_eq _ (by omega)]
      rfl
    by_cases c1 : a0 < 0
    · exact both ⟨0, (1, 0, 0), fun k _ => ⟨by unfold frag_Fits.f; rw [if_pos c1], by unfold triglyphref24_Fits.f; rw [if_pos c1]⟩⟩
    by_cases c2 : a0 > 2
    · exact both ⟨0, (1, 0, 0), fun k _ => ⟨by unfold frag_Fits.f; rw [if_neg c1, if_pos c2], by unfold triglyphref24_Fits.f; rw [if_neg c1, if_pos c2]⟩⟩
    have hd : a0 = 0 ∨ a0 = 1 ∨ a0 = 2 := by omega
    obtain ⟨K2, b2, h2, k2⟩ := chkN_eq ⟨x0, x1, x2, ⟨s, c⟩, ks, p⟩ hok (by omega)
    dsimp only at k2
    by_cases cc : b2 = true ∧ szN ⟨x0, x1, x2, ⟨s, c⟩, ks, p⟩ ≤ 2048 ∧ dpN ⟨x0, x1, x2, ⟨s, c⟩, ks, p⟩ ≤ 24
    rotate_left
    · refine both ⟨K2, (1, 0, 0), fun k hk => ?_⟩
      obtain ⟨e1, e2⟩ := k2 k hk
      rw [if_neg cc] at e1 e2
      exact ⟨by unfold frag_Fits.f; rw [if_neg c1, if_neg c2, e1, Option.bind_some, if_neg (by decide)], by unfold triglyphref24_Fits.f; rw [if_neg c1, if_neg c2, e2, Option.bind_some, if_neg (by decide)]⟩
    have hwf : wfN ⟨x0, x1, x2, ⟨s, c⟩, ks, p⟩ := (wf_all K2).1 _ _ (by rw [h2 K2 (Nat.le_refl _), cc.1])
    obtain ⟨a, ha⟩ := node_ev hd _ hwf
    obtain ⟨K3, k3⟩ := first_ev hd _ hwf (by omega) a ha
    obtain ⟨_, K4, k4⟩ := ha
    dsimp only at k3
    refine both ⟨K2 + K3 + K4, a, fun k hk => ?_⟩
    obtain ⟨e1, e2⟩ := k2 k (by omega)
    rw [if_pos cc] at e1 e2
    constructor
    · unfold frag_Fits.f
      rw [if_neg c1, if_neg c2, e1, Option.bind_some, if_pos rfl]
      have e4 := k4 k (by omega) z3 good_z
      rw [comb_z] at e4
      exact e4
    · unfold triglyphref24_Fits.f
      rw [if_neg c1, if_neg c2, e2, Option.bind_some, if_pos rfl, k3 k (by omega)]
      rfl
end Go.Proofs.Ytfjkclhkobnakaa.Pure
