/- Written by a program of this session: the functions that the laws reach, what each comes to, and each law as it is stated, for every input. No condition. -/
import Derived.Test.YtfjkclhkobnakaaPx0
import Derived.Test.YtfjkclhkobnakaaPx7
import Derived.Test.YtfjkclhkobnakaaPx8
namespace Go.Proofs.Ytfjkclhkobnakaa.P
open Go.RowKit Go.Proofs.YtfjkclhkobnakaaW.PrintWords Go.Proofs.YtfjkclhkobnakaaW.PrintLast Go.Proofs.YtfjkclhkobnakaaW.PrintMore
attribute [local go_sem] max2_int min2_int max_two min_two max_three min_three max_four min_four   -- for this text's walks alone
set_option linter.unusedVariables false
set_option linter.unusedSimpArgs false
def triglyphref03_Atom.f (a0 : Int) : Option (List Int × (List (S57))) := some (([] : List Int), (([(⟨0, a0, ([] : List (S25))⟩ : S57)] : List (S57))))
set_option maxHeartbeats 8000000 in
set_option maxRecDepth 100000 in
theorem triglyphref03_Atom.calls (a0 : Int) (r1 : List Int) (r2 : List (S57)) (w : World) (h : triglyphref03_Atom.f a0 = some (r1, r2)) :
  Calls Try.prog 17 #[.int .i64 a0] w fun e w' => ∃ v0_ v1_ : Value, e = .returned (.agg #[v0_, v1_]) ∧ Kd.R (Kd.int .i64) 3 w' w.heap.size (fun _ => True) v0_ r1 ∧ Kd.R k57 57 w' w.heap.size (fun k_ => some k_ ≠ (v0_ : Value).ownBlock) v1_ r2 ∧ Below w.heap.size w w' := by
 have hu25 := Try.underlying25
 have hu57 := Try.underlying57
 have HB := gA (Below.refl w.heap.size w)
 have H : (some (([] : List Int), (([(⟨0, a0, ([] : List (S25))⟩ : S57)] : List (S57))))) = some (r1, r2) := h
 clear h
 obtain ⟨y139, hy139⟩ : ∃ y_ : List (S57), y_ = (([(⟨0, a0, ([] : List (S25))⟩ : S57)] : List (S57))) := ⟨_, rfl⟩
 replace H : (some (([] : List Int), y139)) = some (r1, r2) := by first | (rw [hy139]; with_reducible exact H) | (have H2_ := (Option.bind_some _ _).symm.trans H; rw [hy139]; with_reducible exact H2_) | (have H2_ := (Option.bind_some _ _).symm.trans H; with_reducible exact H2_) | with_reducible exact H | (rw [hy139]; exact H) | exact H
 have Ny139 := gA hy139
 clear hy139
 simp only [Option.some.injEq, Prod.mk.injEq] at H
 obtain ⟨rfl, rfl⟩ := H
 go_enter Try.func17, Try.ntmps17
 go_wp2_with (first | ((with_reducible refine gate_dst (N := 2) rfl ?_); refine box_event ?hg (N := 2) ?hd (cs := #[.slice none 0 0, .slice none 0 0]) (t := 25) ?hr ?_; (case hd => rfl); (case hg => rfl); (case hr => first | (go_simp; done) | (go_simp; rfl)); intro gb138 hg w2 hbox hb; have BK138 := gA (hbox); have GW138 := gA ((by rw [hg]; exact (below_size (gB HB)) : w.heap.size ≤ gb138)); have GE138 := gA ((by rw [hg]; exact (below_size (gB HB)) : w.heap.size ≤ gb138)); replace HB := gA (below_step (gB HB) hb); clear hb hbox hg) | ((with_reducible refine gate_dst (N := 5) rfl ?_); refine Kd.R_lit k57 _ 57 ?hg (N := 5) ?hd (xs := ([(⟨0, a0, ([] : List (S25))⟩ : S57)] : List (S57))) (inner := [.int .i64 0, .int .i64 a0, .slice none 0 0]) (ok := fun _ => True) (okp := fun _ => True) ?hr ?hp (fun _ hk => hk) trivial (Below.refl _ _) (Nat.le_refl _) (by simp) ?_; (case hd => rfl); (case hg => rfl); (case hr => first | (go_simp; done) | (go_simp; rfl)); (case hp => exact (Reps.c3 (show Kd.M k57 _ _ _ (⟨0, a0, ([] : List (S25))⟩ : S57) [.int .i64 0, .int .i64 a0, .slice none 0 0] from (k57_mkM _ _ _ (⟨0, a0, ([] : List (S25))⟩ : S57) (Kd.R_nil _ _ _ _ _))) (Reps.none _ _))); intro v140 w3 ho4 hb hg_ hnew_; clear hg_ hnew_; (first | rw [← Ny139.out] at ho4 | (simp only [Int.reduceToNat] at ho4; rw [← Ny139.out] at ho4)); have HO141 := gA (Kd.R_lower (Kd.R_newB ho4 (gK BK138)) (below_size (gB HB))); replace BK138 := gA (blk_below (gK BK138) hb); replace HB := gA (below_step (gB HB) hb); clear hb ho4; obtain ⟨Ao5, co5, eo5⟩ := Kd.R_slice HO141.out; subst eo5; obtain ⟨hcz6_0, hcz6_1, hfz6_0, hfz6_1⟩ := gz2 BK138))
 refine bodyPost_ret (results_cell_row rfl _ _ gb138 25 #[.slice none 0 0, .slice Ao5 y139.length co5] (0, 0) _ rfl (by refine blk_put (cs := #[.slice none 0 0, .slice none 0 0]) ?_ 1 _ rfl; refine blk_put (cs := #[.slice none 0 0, .slice none 0 0]) ?_ 0 _ rfl; exact gK BK138) Try.underlying25 rfl (by kernel_rfl)) rfl ?_
 exact ⟨_, _, rfl, by first | exact Kd.R_nil _ _ _ _ _ | exact Kd.N_nil _ _ _ _ _ | exact Kd.V_nil _ _ _ _ _ | exact Kd.Q_nil _ _ _ _ _ | exact Kd.S_nil _ _ _ _ _, Kd.R_mono (Kd.R_far (p := ⟨gb138, 1, none⟩) (Kd.R_far (p := ⟨gb138, 0, none⟩) (Kd.R_mono HO141.out (fun k_ hk => (⟨hk, hk.2⟩ : _ ∧ k_ ≠ gb138))) (fun _ hk => hk.2) (.slice none 0 0)) (fun _ hk => hk.2) (.slice Ao5 y139.length co5)) (fun _ hk => (by simp [Value.ownBlock])), by repeat first | exact gB HB | refine below_set ?_ GE138.out⟩
def triglyphlaw24_works.f (k : Nat)  : Option (Bool) := (triglyphref10_Prim.f 15).bind fun bt142 => ((triglyphref03_Atom.f 1).bind fun bt155 => ((triglyphref10_Lit.f bt155.1 bt155.2).bind fun bt161 => ((triglyphref10_One.f bt142.1 bt142.2.1 bt142.2.2.1 bt142.2.2.2.1 bt142.2.2.2.2.1 bt142.2.2.2.2.2.1 bt142.2.2.2.2.2.2 bt161.1 bt161.2.1 bt161.2.2.1 bt161.2.2.2.1 bt161.2.2.2.2.1 bt161.2.2.2.2.2.1 bt161.2.2.2.2.2.2).bind fun bt174 => ((frag_Fits.f k 2 bt174.1 bt174.2.1 bt174.2.2.1 bt174.2.2.2.1 bt174.2.2.2.2.1 bt174.2.2.2.2.2.1 bt174.2.2.2.2.2.2).bind fun bt188 => ((frag_Fits.f k 0 bt174.1 bt174.2.1 bt174.2.2.1 bt174.2.2.2.1 bt174.2.2.2.2.1 bt174.2.2.2.2.2.1 bt174.2.2.2.2.2.2).bind fun bt192 => (if bt192.1 = 0 then (if bt188.1 = 13 then (if bt188.2.2 = 2 then ((frag_Fits.f k 3 bt174.1 bt174.2.1 bt174.2.2.1 bt174.2.2.2.1 bt174.2.2.2.2.1 bt174.2.2.2.2.2.1 bt174.2.2.2.2.2.2).bind fun bt195 => (if bt195.1 = 1 then ((frag_Says.f k 2 21).bind fun t198 => (if t198 = true then ((frag_Says.f k 2 2).bind fun t199 => (some (!t199))) else (none))) else (none))) else (none)) else (none)) else (none)))))))
theorem triglyphlaw24_works.mono : ∀ k, LeO (triglyphlaw24_works.f k ) (triglyphlaw24_works.f (k + 1) ) := by
 intro  k
 unfold triglyphlaw24_works.f
 repeat' first
   | (with_reducible exact frag_Fits.mono _ _ _ _ _ _ _ _ _)
   | (with_reducible exact frag_Says.mono _ _ _)
   | (with_reducible exact LeO.refl _)
   | (with_reducible exact LeO.none _)
   | (with_reducible refine LeO.ite ?_ ?_)
   | (with_reducible refine LeO.bind ?_ (fun _ => ?_))
   | exact frag_Fits.mono _ _ _ _ _ _ _ _ _
   | exact frag_Says.mono _ _ _
set_option maxHeartbeats 8000000 in
set_option maxRecDepth 100000 in
theorem triglyphlaw24_works.calls (k : Nat)  (r : Bool) (w : World) (h : triglyphlaw24_works.f k  = some r) :
  Calls Try.prog 7 #[] w fun e w' => e = .returned (.bool r) ∧ Below w.heap.size w w' := by
 have hu28 := Try.underlying28
 have hu33 := Try.underlying33
 have hfd33_0 := fun (x0 x1 x2 : Int) (w : World) => (show (Instr.field 33 (.agg #[.int .i64 x0, .int .i64 x1, .int .i64 x2]) 0).run Try.prog w = Result.ok (.int .i64 x0) w from rfl)
 have HB := gA (Below.refl w.heap.size w)
 have H : ((triglyphref10_Prim.f 15).bind fun bt142 => ((triglyphref03_Atom.f 1).bind fun bt155 => ((triglyphref10_Lit.f bt155.1 bt155.2).bind fun bt161 => ((triglyphref10_One.f bt142.1 bt142.2.1 bt142.2.2.1 bt142.2.2.2.1 bt142.2.2.2.2.1 bt142.2.2.2.2.2.1 bt142.2.2.2.2.2.2 bt161.1 bt161.2.1 bt161.2.2.1 bt161.2.2.2.1 bt161.2.2.2.2.1 bt161.2.2.2.2.2.1 bt161.2.2.2.2.2.2).bind fun bt174 => ((frag_Fits.f k 2 bt174.1 bt174.2.1 bt174.2.2.1 bt174.2.2.2.1 bt174.2.2.2.2.1 bt174.2.2.2.2.2.1 bt174.2.2.2.2.2.2).bind fun bt188 => ((frag_Fits.f k 0 bt174.1 bt174.2.1 bt174.2.2.1 bt174.2.2.2.1 bt174.2.2.2.2.1 bt174.2.2.2.2.2.1 bt174.2.2.2.2.2.2).bind fun bt192 => (if bt192.1 = 0 then (if bt188.1 = 13 then (if bt188.2.2 = 2 then ((frag_Fits.f k 3 bt174.1 bt174.2.1 bt174.2.2.1 bt174.2.2.2.1 bt174.2.2.2.2.1 bt174.2.2.2.2.2.1 bt174.2.2.2.2.2.2).bind fun bt195 => (if bt195.1 = 1 then ((frag_Says.f k 2 21).bind fun t198 => (if t198 = true then ((frag_Says.f k 2 2).bind fun t199 => (some (!t199))) else (none))) else (none))) else (none)) else (none)) else (none)))))))) = some r := h
 clear h
 replace H := Option.bind_eq_some_iff.mp H
 obtain ⟨⟨t142, t143, t144, t145, t148, t151, t154⟩, A10, H⟩ := H
 replace H : ((triglyphref03_Atom.f 1).bind fun bt155 => ((triglyphref10_Lit.f bt155.1 bt155.2).bind fun bt161 => ((triglyphref10_One.f t142 t143 t144 t145 t148 t151 t154 bt161.1 bt161.2.1 bt161.2.2.1 bt161.2.2.2.1 bt161.2.2.2.2.1 bt161.2.2.2.2.2.1 bt161.2.2.2.2.2.2).bind fun bt174 => ((frag_Fits.f k 2 bt174.1 bt174.2.1 bt174.2.2.1 bt174.2.2.2.1 bt174.2.2.2.2.1 bt174.2.2.2.2.2.1 bt174.2.2.2.2.2.2).bind fun bt188 => ((frag_Fits.f k 0 bt174.1 bt174.2.1 bt174.2.2.1 bt174.2.2.2.1 bt174.2.2.2.2.1 bt174.2.2.2.2.2.1 bt174.2.2.2.2.2.2).bind fun bt192 => (if bt192.1 = 0 then (if bt188.1 = 13 then (if bt188.2.2 = 2 then ((frag_Fits.f k 3 bt174.1 bt174.2.1 bt174.2.2.1 bt174.2.2.2.1 bt174.2.2.2.2.1 bt174.2.2.2.2.2.1 bt174.2.2.2.2.2.2).bind fun bt195 => (if bt195.1 = 1 then ((frag_Says.f k 2 21).bind fun t198 => (if t198 = true then ((frag_Says.f k 2 2).bind fun t199 => (some (!t199))) else (none))) else (none))) else (none)) else (none)) else (none))))))) = some r := H
 have A1 := gA A10
 clear A10
 replace H := Option.bind_eq_some_iff.mp H
 obtain ⟨⟨t155, t158⟩, A20, H⟩ := H
 replace H : ((triglyphref10_Lit.f t155 t158).bind fun bt161 => ((triglyphref10_One.f t142 t143 t144 t145 t148 t151 t154 bt161.1 bt161.2.1 bt161.2.2.1 bt161.2.2.2.1 bt161.2.2.2.2.1 bt161.2.2.2.2.2.1 bt161.2.2.2.2.2.2).bind fun bt174 => ((frag_Fits.f k 2 bt174.1 bt174.2.1 bt174.2.2.1 bt174.2.2.2.1 bt174.2.2.2.2.1 bt174.2.2.2.2.2.1 bt174.2.2.2.2.2.2).bind fun bt188 => ((frag_Fits.f k 0 bt174.1 bt174.2.1 bt174.2.2.1 bt174.2.2.2.1 bt174.2.2.2.2.1 bt174.2.2.2.2.2.1 bt174.2.2.2.2.2.2).bind fun bt192 => (if bt192.1 = 0 then (if bt188.1 = 13 then (if bt188.2.2 = 2 then ((frag_Fits.f k 3 bt174.1 bt174.2.1 bt174.2.2.1 bt174.2.2.2.1 bt174.2.2.2.2.1 bt174.2.2.2.2.2.1 bt174.2.2.2.2.2.2).bind fun bt195 => (if bt195.1 = 1 then ((frag_Says.f k 2 21).bind fun t198 => (if t198 = true then ((frag_Says.f k 2 2).bind fun t199 => (some (!t199))) else (none))) else (none))) else (none)) else (none)) else (none)))))) = some r := H
 have A2 := gA A20
 clear A20
 replace H := Option.bind_eq_some_iff.mp H
 obtain ⟨⟨t161, t162, t163, t164, t167, t170, t173⟩, A30, H⟩ := H
 replace H : ((triglyphref10_One.f t142 t143 t144 t145 t148 t151 t154 t161 t162 t163 t164 t167 t170 t173).bind fun bt174 => ((frag_Fits.f k 2 bt174.1 bt174.2.1 bt174.2.2.1 bt174.2.2.2.1 bt174.2.2.2.2.1 bt174.2.2.2.2.2.1 bt174.2.2.2.2.2.2).bind fun bt188 => ((frag_Fits.f k 0 bt174.1 bt174.2.1 bt174.2.2.1 bt174.2.2.2.1 bt174.2.2.2.2.1 bt174.2.2.2.2.2.1 bt174.2.2.2.2.2.2).bind fun bt192 => (if bt192.1 = 0 then (if bt188.1 = 13 then (if bt188.2.2 = 2 then ((frag_Fits.f k 3 bt174.1 bt174.2.1 bt174.2.2.1 bt174.2.2.2.1 bt174.2.2.2.2.1 bt174.2.2.2.2.2.1 bt174.2.2.2.2.2.2).bind fun bt195 => (if bt195.1 = 1 then ((frag_Says.f k 2 21).bind fun t198 => (if t198 = true then ((frag_Says.f k 2 2).bind fun t199 => (some (!t199))) else (none))) else (none))) else (none)) else (none)) else (none))))) = some r := H
 have A3 := gA A30
 clear A30
 replace H := Option.bind_eq_some_iff.mp H
 obtain ⟨⟨t174, t175, t176, t177, t180, t183, t186⟩, A40, H⟩ := H
 replace H : ((frag_Fits.f k 2 t174 t175 t176 t177 t180 t183 t186).bind fun bt188 => ((frag_Fits.f k 0 t174 t175 t176 t177 t180 t183 t186).bind fun bt192 => (if bt192.1 = 0 then (if bt188.1 = 13 then (if bt188.2.2 = 2 then ((frag_Fits.f k 3 t174 t175 t176 t177 t180 t183 t186).bind fun bt195 => (if bt195.1 = 1 then ((frag_Says.f k 2 21).bind fun t198 => (if t198 = true then ((frag_Says.f k 2 2).bind fun t199 => (some (!t199))) else (none))) else (none))) else (none)) else (none)) else (none)))) = some r := H
 have A4 := gA A40
 clear A40
 replace H := Option.bind_eq_some_iff.mp H
 obtain ⟨⟨t188, t189, t190⟩, A50, H⟩ := H
 replace H : ((frag_Fits.f k 0 t174 t175 t176 t177 t180 t183 t186).bind fun bt192 => (if bt192.1 = 0 then (if t188 = 13 then (if t190 = 2 then ((frag_Fits.f k 3 t174 t175 t176 t177 t180 t183 t186).bind fun bt195 => (if bt195.1 = 1 then ((frag_Says.f k 2 21).bind fun t198 => (if t198 = true then ((frag_Says.f k 2 2).bind fun t199 => (some (!t199))) else (none))) else (none))) else (none)) else (none)) else (none))) = some r := H
 have A5 := gA A50
 clear A50
 replace H := Option.bind_eq_some_iff.mp H
 obtain ⟨⟨t192, t193, t194⟩, A60, H⟩ := H
 replace H : (if t192 = 0 then (if t188 = 13 then (if t190 = 2 then ((frag_Fits.f k 3 t174 t175 t176 t177 t180 t183 t186).bind fun bt195 => (if bt195.1 = 1 then ((frag_Says.f k 2 21).bind fun t198 => (if t198 = true then ((frag_Says.f k 2 2).bind fun t199 => (some (!t199))) else (none))) else (none))) else (none)) else (none)) else (none)) = some r := H
 have A6 := gA A60
 clear A60
 obtain ⟨c7, H⟩ := iS H
 have c7b0 : (t192 == 0) = true := beq_iff_eq.mpr c7
 have c7b1 : (t192 != 0) = false := bne_eq_false_iff_eq.mpr c7
 clear c7
 obtain ⟨c8, H⟩ := iS H
 have c8b0 : (t188 == 13) = true := beq_iff_eq.mpr c8
 have c8b1 : (t188 != 13) = false := bne_eq_false_iff_eq.mpr c8
 clear c8
 obtain ⟨c9, H⟩ := iS H
 have c9b0 : (t190 == 2) = true := beq_iff_eq.mpr c9
 have c9b1 : (t190 != 2) = false := bne_eq_false_iff_eq.mpr c9
 clear c9
 replace H := Option.bind_eq_some_iff.mp H
 obtain ⟨⟨t195, t196, t197⟩, A100, H⟩ := H
 replace H : (if t195 = 1 then ((frag_Says.f k 2 21).bind fun t198 => (if t198 = true then ((frag_Says.f k 2 2).bind fun t199 => (some (!t199))) else (none))) else (none)) = some r := H
 have A10 := gA A100
 clear A100
 obtain ⟨c11, H⟩ := iS H
 have c11b0 : (t195 == 1) = true := beq_iff_eq.mpr c11
 have c11b1 : (t195 != 1) = false := bne_eq_false_iff_eq.mpr c11
 clear c11
 replace H := Option.bind_eq_some_iff.mp H
 obtain ⟨t198, A120, H⟩ := H
 replace H : (if t198 = true then ((frag_Says.f k 2 2).bind fun t199 => (some (!t199))) else (none)) = some r := H
 have A12 := gA A120
 clear A120
 by_cases c13 : t198 = true
 ·subst c13
  have H1 : ((frag_Says.f k 2 2).bind fun t199 => (some (!t199))) = some r := by rw [if_pos rfl] at H; exact H
  clear H; have H := H1; clear H1
  replace H := Option.bind_eq_some_iff.mp H
  obtain ⟨t199, A140, H⟩ := H
  replace H : (some (!t199)) = some r := H
  have A14 := gA A140
  clear A140
  obtain rfl := Option.some.inj H
  go_enter Try.func7, Try.ntmps7
  go_wp2_with (first | ((with_reducible refine gate_callee (f := 15) rfl ?_); refine goesL_ (some 3) rfl rfl Try.func15 (by kernel_rfl) rfl #[.int .i64 15] rfl (by (try simp only [List.map_toArray, List.map_cons, List.map_nil]); first | done | rfl | (simp only [List.length_drop, List.length_take]; rfl)) ?_; (with_reducible refine (triglyphref10_Prim.calls 15 t142 t143 t144 t145 t148 t151 t154 _ A1.out).mono ?_); rintro e w15 ⟨v146, v149, v152, rfl, ho0, ho1, ho2, hb⟩; refine ⟨_, rfl, ?_⟩; have HO147 := gA (Kd.R_lower ho0 (below_size (gB HB))); have HO150 := gA (Kd.N_lower (Kd.N_mono (ok' := fun k_ => some k_ ≠ (v146 : Value).ownBlock ∧ some k_ ≠ (v152 : Value).ownBlock) (Kd.R_N (Kd.R_bound (Kd.R_apart' ho1 (Kd.R_typed ho2) (by decide)))) (fun k_ hk_ => ⟨hk_.1.1, hk_.1.2⟩)) (below_size (gB HB))); have HO153 := gA (Kd.N_lower (Kd.N_mono (ok' := fun k_ => some k_ ≠ (v146 : Value).ownBlock ∧ some k_ ≠ (v149 : Value).ownBlock) (Kd.R_N (Kd.R_bound ho2)) (fun k_ hk_ => ⟨hk_.1.1, hk_.1.2⟩)) (below_size (gB HB))); replace HB := gA (below_step (gB HB) hb); (try clear hb); (try clear ho0); (try clear ho1); (try clear ho2)) | ((with_reducible refine gate_callee (f := 17) rfl ?_); refine goesL_ (some 4) rfl rfl Try.func17 (by kernel_rfl) rfl #[.int .i64 1] rfl (by (try simp only [List.map_toArray, List.map_cons, List.map_nil]); first | done | rfl | (simp only [List.length_drop, List.length_take]; rfl)) ?_; (with_reducible refine (triglyphref03_Atom.calls 1 t155 t158 _ A2.out).mono ?_); rintro e w16 ⟨v156, v159, rfl, ho0, ho1, hb⟩; refine ⟨_, rfl, ?_⟩; have HO157 := gA (Kd.R_lower (Kd.R_new' ho0 (Kd.R_lt (gR HO147))) (below_size (gB HB))); have HO160 := gA (Kd.N_lower (Kd.N_mono (ok' := fun k_ => some k_ ≠ (v156 : Value).ownBlock ∧ some k_ ≠ (v146 : Value).ownBlock ∧ some k_ ≠ (v149 : Value).ownBlock ∧ some k_ ≠ (v152 : Value).ownBlock) (Kd.R_N (Kd.R_bound ho1)) (fun k_ hk_ => ⟨hk_.1, (Kd.fresh' (Kd.R_lt (gR HO147)) k_ hk_.2.1), (Kd.fresh' (Kd.N_lt (gN HO150)) k_ hk_.2.1), (Kd.fresh' (Kd.N_lt (gN HO153)) k_ hk_.2.1)⟩)) (below_size (gB HB))); replace HO147 := gA (Kd.R_elder' (gR HO147) (Kd.R_base ho0) hb); replace HO150 := gA (Kd.N_mono (Kd.N_told (Kd.N_told (Kd.N_old (gN HO150) hb) (Kd.R_base ho0)) (by first | exact Kd.N_base ho1 | exact Kd.R_base ho1)) (fun _ h_ => h_.1)); replace HO153 := gA (Kd.N_mono (Kd.N_told (Kd.N_told (Kd.N_old (gN HO153) hb) (Kd.R_base ho0)) (by first | exact Kd.N_base ho1 | exact Kd.R_base ho1)) (fun _ h_ => h_.1)); replace HB := gA (below_step (gB HB) hb); (try clear hb); (try clear ho0); (try clear ho1); obtain ⟨Ao17, co17, eo17⟩ := Kd.R_slice HO157.out; subst eo17; obtain ⟨Ao18, co18, eo18⟩ := Kd.N_slice HO160.out; subst eo18) | ((with_reducible refine gate_callee (f := 16) rfl ?_); refine goesL_ (some 5) rfl rfl Try.func16 (by kernel_rfl) rfl #[.agg #[.slice Ao17 t155.length co17, .slice Ao18 t158.length co18]] rfl (by (try simp only [List.map_toArray, List.map_cons, List.map_nil]); first | done | rfl | (simp only [List.length_drop, List.length_take]; rfl)) ?_; (with_reducible refine (triglyphref10_Lit.calls (fun k_ => some k_ = (.slice Ao17 t155.length co17 : Value).ownBlock) (.slice Ao17 t155.length co17) t155 (fun k_ => (some k_ ≠ (.slice Ao17 t155.length co17 : Value).ownBlock ∧ (some k_ ≠ (v146 : Value).ownBlock ∧ (some k_ ≠ (v149 : Value).ownBlock ∧ some k_ ≠ (v152 : Value).ownBlock)))) _ _ t158 t161 t162 t163 t164 t167 t170 t173 w _ ?side1 ?side2 ?side3 A3.out).mono ?_); (case side1 => repeat (first | (with_reducible first | exact HB.out | apply below_alloc | apply pw_below_drewN | apply below_drew1) | exact HB.out)); (case side2 => exact Kd.R_tight rfl HO157.out); (case side3 => exact Kd.V_mono (Kd.N_V (HO160.out)) (fun k_ hk_ => ⟨hk_, hk_.1⟩)); rintro e w19 ⟨v165, v168, v171, rfl, ho0, ho1, ho2, hb, hkp⟩; refine ⟨_, rfl, ?_⟩; replace HO160 := gA (Kd.N_mono (ok' := fun k_ => some k_ ≠ (v146 : Value).ownBlock ∧ some k_ ≠ (v149 : Value).ownBlock ∧ some k_ ≠ (v152 : Value).ownBlock ∧ some k_ ≠ (v165 : Value).ownBlock ∧ some k_ ≠ (v171 : Value).ownBlock) (Kd.N_keptB (HO160.out) hkp (fun k_ hk_ hs_ => (hk_.1) hs_)) (fun k_ hk_ => ⟨hk_.1.2.1, hk_.1.2.2.1, hk_.1.2.2.2, fun e_ => Or.elim (ho0.1 k_ e_.symm) (fun hs_ => hk_.2.1 hs_) (fun hn_ => Nat.not_le.2 hk_.2.2 hn_), fun e_ => Nat.not_le.2 hk_.2.2 (Kd.N_base ho2 k_ e_.symm)⟩)); have HO166 := gA (Kd.R_mono (ok' := fun k_ => some k_ ≠ (v146 : Value).ownBlock) ho0 (fun k_ hk_ => Or.elim hk_ (fun hs_ => fun e_ => (((HO147.out).1 k_ e_.symm).2) hs_) (fun hn_ => (Kd.fresh' (Kd.R_lt (gR HO147)) k_ hn_)))); have HO169 := gA (Kd.V_mono (ok' := fun k_ => some k_ ≠ (v165 : Value).ownBlock ∧ some k_ ≠ (v171 : Value).ownBlock ∧ some k_ ≠ (v146 : Value).ownBlock ∧ some k_ ≠ (v149 : Value).ownBlock ∧ some k_ ≠ (v152 : Value).ownBlock) ho1 (fun k_ hk_ => ⟨hk_.2.1, hk_.2.2, Or.elim hk_.1 (fun hs_ => Or.elim hs_ (fun hs_ => fun e_ => (((HO147.out).1 k_ e_.symm).2) hs_) (fun hs_ => hs_.2.1)) (fun hn_ => (Kd.fresh' (Kd.R_lt (gR HO147)) k_ hn_)), Or.elim hk_.1 (fun hs_ => Or.elim hs_ (fun hs_ => fun e_ => (((HO150.out).1 k_ e_.symm).1.2) hs_) (fun hs_ => hs_.2.2.1)) (fun hn_ => (Kd.fresh' (Kd.N_lt (gN HO150)) k_ hn_)), Or.elim hk_.1 (fun hs_ => Or.elim hs_ (fun hs_ => fun e_ => (((HO153.out).1 k_ e_.symm).1.2) hs_) (fun hs_ => hs_.2.2.2)) (fun hn_ => (Kd.fresh' (Kd.N_lt (gN HO153)) k_ hn_))⟩)); have HO172 := gA (Kd.N_lower (Kd.N_mono (ok' := fun k_ => some k_ ≠ (v165 : Value).ownBlock ∧ some k_ ≠ (v146 : Value).ownBlock ∧ some k_ ≠ (v149 : Value).ownBlock ∧ some k_ ≠ (v152 : Value).ownBlock) ho2 (fun k_ hk_ => ⟨hk_.2, Or.elim hk_.1 (fun hs_ => Or.elim hs_ (fun hs_ => fun e_ => (((HO147.out).1 k_ e_.symm).2) hs_) (fun hs_ => hs_.2.1)) (fun hn_ => (Kd.fresh' (Kd.R_lt (gR HO147)) k_ hn_)), Or.elim hk_.1 (fun hs_ => Or.elim hs_ (fun hs_ => fun e_ => (((HO150.out).1 k_ e_.symm).1.2) hs_) (fun hs_ => hs_.2.2.1)) (fun hn_ => (Kd.fresh' (Kd.N_lt (gN HO150)) k_ hn_)), Or.elim hk_.1 (fun hs_ => Or.elim hs_ (fun hs_ => fun e_ => (((HO153.out).1 k_ e_.symm).1.2) hs_) (fun hs_ => hs_.2.2.2)) (fun hn_ => (Kd.fresh' (Kd.N_lt (gN HO153)) k_ hn_))⟩)) (below_size (gB HB))); replace HO147 := gA (Kd.R_mono (ok' := fun k_ => some k_ ≠ (v165 : Value).ownBlock) (Kd.R_keptB (HO147.out) hkp (fun k_ hk_ hs_ => (hk_.2) hs_)) (fun k_ hk_ => fun e_ => Or.elim (ho0.1 k_ e_.symm) (fun hs_ => hk_.2.1 hs_) (fun hn_ => Nat.not_le.2 hk_.2.2 hn_))); replace HO150 := gA (Kd.N_mono (ok' := fun k_ => some k_ ≠ (v146 : Value).ownBlock ∧ some k_ ≠ (v152 : Value).ownBlock ∧ some k_ ≠ (.slice Ao18 t158.length co18 : Value).ownBlock ∧ some k_ ≠ (v165 : Value).ownBlock ∧ some k_ ≠ (v171 : Value).ownBlock) (Kd.N_keptB (HO150.out) hkp (fun k_ hk_ hs_ => (hk_.1.2) hs_)) (fun k_ hk_ => ⟨hk_.1.1.1.1, hk_.1.1.1.2, hk_.1.2, fun e_ => Or.elim (ho0.1 k_ e_.symm) (fun hs_ => hk_.2.1 hs_) (fun hn_ => Nat.not_le.2 hk_.2.2 hn_), fun e_ => Nat.not_le.2 hk_.2.2 (Kd.N_base ho2 k_ e_.symm)⟩)); replace HO153 := gA (Kd.N_mono (ok' := fun k_ => some k_ ≠ (v146 : Value).ownBlock ∧ some k_ ≠ (v149 : Value).ownBlock ∧ some k_ ≠ (.slice Ao18 t158.length co18 : Value).ownBlock ∧ some k_ ≠ (v165 : Value).ownBlock ∧ some k_ ≠ (v171 : Value).ownBlock) (Kd.N_keptB (HO153.out) hkp (fun k_ hk_ hs_ => (hk_.1.2) hs_)) (fun k_ hk_ => ⟨hk_.1.1.1.1, hk_.1.1.1.2, hk_.1.2, fun e_ => Or.elim (ho0.1 k_ e_.symm) (fun hs_ => hk_.2.1 hs_) (fun hn_ => Nat.not_le.2 hk_.2.2 hn_), fun e_ => Nat.not_le.2 hk_.2.2 (Kd.N_base ho2 k_ e_.symm)⟩)); replace HB := gA (hb); clear HO157; (try clear hb); (try clear hkp); (try clear ho0); (try clear ho1); (try clear ho2); obtain ⟨Ao20, co20, eo20⟩ := Kd.R_slice HO147.out; subst eo20; obtain ⟨Ao21, co21, eo21⟩ := Kd.N_slice HO150.out; subst eo21; obtain ⟨Ao22, co22, eo22⟩ := Kd.N_slice HO153.out; subst eo22; obtain ⟨Ao23, co23, eo23⟩ := Kd.R_slice HO166.out; subst eo23; obtain ⟨Ao24, co24, eo24⟩ := Kd.V_slice HO169.out; subst eo24; obtain ⟨Ao25, co25, eo25⟩ := Kd.N_slice HO172.out; subst eo25) | ((with_reducible refine gate_callee (f := 14) rfl ?_); refine goesL_ (some 6) rfl rfl Try.func14 (by kernel_rfl) rfl #[.agg #[.int .i64 t142, .int .i64 t143, .string t144, .slice Ao20 t145.length co20, .slice Ao21 t148.length co21, .slice Ao22 t151.length co22, .int .i64 t154], .agg #[.int .i64 t161, .int .i64 t162, .string t163, .slice Ao23 t164.length co23, .slice Ao24 t167.length co24, .slice Ao25 t170.length co25, .int .i64 t173]] rfl (by (try simp only [List.map_toArray, List.map_cons, List.map_nil]); first | done | rfl | (simp only [List.length_drop, List.length_take]; rfl)) ?_; (with_reducible refine (triglyphref10_One.calls t142 t143 t144 (fun k_ => some k_ = (.slice Ao20 t145.length co20 : Value).ownBlock) _ _ t145 (fun k_ => (some k_ ≠ (.slice Ao20 t145.length co20 : Value).ownBlock ∧ (some k_ ≠ (.slice Ao22 t151.length co22 : Value).ownBlock ∧ (some k_ ≠ (.slice Ao18 t158.length co18 : Value).ownBlock ∧ (some k_ ≠ (.slice Ao23 t164.length co23 : Value).ownBlock ∧ some k_ ≠ (.slice Ao25 t170.length co25 : Value).ownBlock))))) _ _ t148 (fun k_ => (some k_ ≠ (.slice Ao20 t145.length co20 : Value).ownBlock ∧ (some k_ ≠ (.slice Ao21 t148.length co21 : Value).ownBlock ∧ (some k_ ≠ (.slice Ao18 t158.length co18 : Value).ownBlock ∧ (some k_ ≠ (.slice Ao23 t164.length co23 : Value).ownBlock ∧ some k_ ≠ (.slice Ao25 t170.length co25 : Value).ownBlock))))) _ _ t151 t154 t161 t162 t163 (fun k_ => some k_ = (.slice Ao23 t164.length co23 : Value).ownBlock) _ _ t164 (fun k_ => (some k_ ≠ (.slice Ao23 t164.length co23 : Value).ownBlock ∧ (some k_ ≠ (.slice Ao25 t170.length co25 : Value).ownBlock ∧ (some k_ ≠ (.slice Ao20 t145.length co20 : Value).ownBlock ∧ (some k_ ≠ (.slice Ao21 t148.length co21 : Value).ownBlock ∧ some k_ ≠ (.slice Ao22 t151.length co22 : Value).ownBlock))))) _ _ t167 (fun k_ => (some k_ ≠ (.slice Ao23 t164.length co23 : Value).ownBlock ∧ (some k_ ≠ (.slice Ao20 t145.length co20 : Value).ownBlock ∧ (some k_ ≠ (.slice Ao21 t148.length co21 : Value).ownBlock ∧ some k_ ≠ (.slice Ao22 t151.length co22 : Value).ownBlock)))) _ _ t170 t173 t174 t175 t176 t177 t180 t183 t186 _ ?side1 ?side2 ?side3 ?side4 ?side5 ?side6 A4.out).mono ?_); (case side1 => exact Kd.R_V (Kd.R_tight rfl (Kd.R_apart' (Kd.R_apart' (Kd.R_apart' (Kd.R_apart' (HO147.out) (Kd.N_typed HO150.out) (by decide)) (Kd.N_typed HO153.out) (by decide)) (Kd.N_typed HO160.out) (by decide)) (Kd.N_typed HO172.out) (by decide)))); (case side2 => exact Kd.N_V (HO150.out)); (case side3 => exact Kd.N_V (HO153.out)); (case side4 => exact Kd.R_V (Kd.R_tight rfl (Kd.R_apart' (Kd.R_apart' (Kd.R_apart' (Kd.R_apart' (HO166.out) (Kd.N_typed HO150.out) (by decide)) (Kd.N_typed HO153.out) (by decide)) (Kd.N_typed HO160.out) (by decide)) (Kd.N_typed HO172.out) (by decide)))); (case side5 => exact HO169.out); (case side6 => exact Kd.N_V (HO172.out)); rintro e w26 ⟨v178, v181, v184, rfl, ho0, ho1, ho2, hb⟩; refine ⟨_, rfl, ?_⟩; replace HO150 := gA (Kd.N_mono (Kd.N_told (Kd.N_told (Kd.N_told (Kd.N_old (gN HO150) hb) (Kd.R_base ho0)) (by first | exact Kd.N_base ho1 | exact Kd.R_base ho1)) (by first | exact Kd.N_base ho2 | exact Kd.R_base ho2)) (fun _ h_ => h_.1)); replace HO153 := gA (Kd.N_mono (Kd.N_told (Kd.N_told (Kd.N_told (Kd.N_old (gN HO153) hb) (Kd.R_base ho0)) (by first | exact Kd.N_base ho1 | exact Kd.R_base ho1)) (by first | exact Kd.N_base ho2 | exact Kd.R_base ho2)) (fun _ h_ => h_.1)); replace HO160 := gA (Kd.N_mono (Kd.N_told (Kd.N_told (Kd.N_told (Kd.N_old (gN HO160) hb) (Kd.R_base ho0)) (by first | exact Kd.N_base ho1 | exact Kd.R_base ho1)) (by first | exact Kd.N_base ho2 | exact Kd.R_base ho2)) (fun _ h_ => h_.1)); replace HO169 := gA (Kd.V_mono (Kd.V_told (Kd.V_told (Kd.V_told (Kd.V_old (gV HO169) hb) (Kd.R_base ho0)) (by first | exact Kd.N_base ho1 | exact Kd.R_base ho1)) (by first | exact Kd.N_base ho2 | exact Kd.R_base ho2)) (fun _ h_ => h_.1)); replace HO172 := gA (Kd.N_mono (Kd.N_told (Kd.N_told (Kd.N_told (Kd.N_old (gN HO172) hb) (Kd.R_base ho0)) (by first | exact Kd.N_base ho1 | exact Kd.R_base ho1)) (by first | exact Kd.N_base ho2 | exact Kd.R_base ho2)) (fun _ h_ => h_.1)); have HO179 := gA (Kd.R_lower (Kd.R_new' (Kd.R_new' (Kd.R_mono (ok' := fun k_ => True) ho0 (fun _ hk_ => trivial)) (Kd.R_lt (gR HO147))) (Kd.R_lt (gR HO166))) (below_size (gB HB))); replace HO147 := gA (Kd.R_elder' (gR HO147) (Kd.R_base ho0) hb); replace HO166 := gA (Kd.R_elder' (gR HO166) (Kd.R_base ho0) hb); have HO182 := gA (Kd.N_lower (Kd.N_mono (ok' := fun k_ => some k_ ≠ (v178 : Value).ownBlock ∧ some k_ ≠ (v184 : Value).ownBlock) ho1 (fun k_ hk_ => ⟨hk_.2.1, hk_.2.2⟩)) (below_size (gB HB))); have HO185 := gA (Kd.N_lower (Kd.N_mono (ok' := fun k_ => some k_ ≠ (v178 : Value).ownBlock ∧ some k_ ≠ (v181 : Value).ownBlock) ho2 (fun k_ hk_ => ⟨hk_.2.1, hk_.2.2⟩)) (below_size (gB HB))); replace HB := gA (below_step (gB HB) hb); (try clear hb); (try clear ho0); (try clear ho1); (try clear ho2)) | ((with_reducible refine gate_dst (N := 1) rfl ?_); refine box_event ?hg (N := 1) ?hd (cs := #[.int .i64 0, .int .i64 0, .string (⟨#[]⟩ : ByteArray), .slice none 0 0, .slice none 0 0, .slice none 0 0, .int .i64 0]) (t := 28) ?hr ?_; (case hd => rfl); (case hg => rfl); (case hr => first | (go_simp; done) | (go_simp; rfl)); intro gb187 hg w27 hbox hb; replace HO147 := gA (Kd.R_below (gR HO147) hb); replace HO150 := gA (Kd.N_below (Kd.N_elderB (gN HO150) gb187 (Nat.le_of_eq hg.symm)) hb); replace HO153 := gA (Kd.N_below (Kd.N_elderB (gN HO153) gb187 (Nat.le_of_eq hg.symm)) hb); replace HO160 := gA (Kd.N_below (Kd.N_elderB (gN HO160) gb187 (Nat.le_of_eq hg.symm)) hb); replace HO166 := gA (Kd.R_below (gR HO166) hb); replace HO169 := gA (Kd.V_below (Kd.V_elderB (gV HO169) gb187 (Nat.le_of_eq hg.symm)) hb); replace HO172 := gA (Kd.N_below (Kd.N_elderB (gN HO172) gb187 (Nat.le_of_eq hg.symm)) hb); replace HO179 := gA (Kd.R_below (gR HO179) hb); replace HO182 := gA (Kd.N_below (Kd.N_elderB (gN HO182) gb187 (Nat.le_of_eq hg.symm)) hb); replace HO185 := gA (Kd.N_below (Kd.N_elderB (gN HO185) gb187 (Nat.le_of_eq hg.symm)) hb); have BK187 := gA (hbox); have GW187 := gA ((by rw [hg]; exact (below_size (gB HB)) : w.heap.size ≤ gb187)); have GE187 := gA ((by rw [hg]; exact (below_size (gB HB)) : w.heap.size ≤ gb187)); replace HB := gA (below_step (gB HB) hb); clear hb hbox hg; have hcz28_0 := gz BK187 0 rfl; have hcz28_1 := gz BK187 1 rfl; have hcz28_2 := gz BK187 2 rfl; have hcz28_3 := gz BK187 3 rfl; have hcz28_4 := gz BK187 4 rfl; have hcz28_5 := gz BK187 5 rfl; have hcz28_6 := gz BK187 6 rfl; have hfz28_0 := blk_frozen BK187.out 0; have hfz28_1 := blk_frozen BK187.out 1; have hfz28_2 := blk_frozen BK187.out 2; have hfz28_3 := blk_frozen BK187.out 3; have hfz28_4 := blk_frozen BK187.out 4; have hfz28_5 := blk_frozen BK187.out 5; have hfz28_6 := blk_frozen BK187.out 6; obtain ⟨Ao29, co29, eo29⟩ := Kd.R_slice HO179.out; subst eo29; obtain ⟨Ao30, co30, eo30⟩ := Kd.N_slice HO182.out; subst eo30; obtain ⟨Ao31, co31, eo31⟩ := Kd.N_slice HO185.out; subst eo31) | ((with_reducible refine gate_callee (f := 8) rfl ?_); refine goesL_ (some 8) rfl rfl Try.func8 (by kernel_rfl) rfl #[.int .i64 2, .agg #[.int .i64 t174, .int .i64 t175, .string t176, .slice Ao29 t177.length co29, .slice Ao30 t180.length co30, .slice Ao31 t183.length co31, .int .i64 t186]] rfl (by (try simp only [List.map_toArray, List.map_cons, List.map_nil]); first | done | rfl | (simp only [List.length_drop, List.length_take]; rfl)) ?_; (with_reducible refine (frag_Fits.calls k 2 t174 t175 t176 _ _ t177 _ _ t180 _ _ t183 t186 t188 t189 t190 _ ?side1 ?side2 ?side3 ?side4 ?side5 ?side6 A5.out).mono ?_); (case side1 => refine (Kd.R_reads' (e := 3) (base := w.heap.size) (ok := fun k_ => ((True ∧ some k_ ≠ (.slice Ao20 t145.length co20 : Value).ownBlock) ∧ some k_ ≠ (.slice Ao23 t164.length co23 : Value).ownBlock)) (n := t177.length) (c := co29) ?_).2.2; exact (by (with_reducible repeat (first | apply Kd.R_alloc | apply Kd.R_drewN | apply Kd.R_drew)); exact (Kd.R_mono (Kd.R_far (p := ⟨gb187, 6, none⟩) (Kd.R_far (p := ⟨gb187, 5, none⟩) (Kd.R_far (p := ⟨gb187, 4, none⟩) (Kd.R_far (p := ⟨gb187, 3, none⟩) (Kd.R_far (p := ⟨gb187, 2, none⟩) (Kd.R_far (p := ⟨gb187, 1, none⟩) (Kd.R_far (p := ⟨gb187, 0, none⟩) (Kd.R_types HO179.out BK187.out (by decide)) (fun _ hk => hk.2) (.int .i64 t174)) (fun _ hk => hk.2) (.int .i64 t175)) (fun _ hk => hk.2) (.string t176)) (fun _ hk => hk.2) (.slice Ao29 t177.length co29)) (fun _ hk => hk.2) (.slice Ao30 t180.length co30)) (fun _ hk => hk.2) (.slice Ao31 t183.length co31)) (fun _ hk => hk.2) (.int .i64 t186)) (fun _ h_ => h_.1)))); (case side2 => exact (Kd.R_reads' HO179.out).2.1); (case side3 => refine (Kd.N_reads' (e := 57) (base := w.heap.size) (ok := fun k_ => ((some k_ ≠ (.slice Ao29 t177.length co29 : Value).ownBlock ∧ some k_ ≠ (.slice Ao31 t183.length co31 : Value).ownBlock) ∧ k_ ≠ gb187)) (n := t180.length) (c := co30) ?_).2.2; exact (by (with_reducible repeat (first | apply Kd.N_alloc | apply Kd.N_drewN | apply Kd.N_drew)); exact (Kd.N_mono (Kd.N_far (p := ⟨gb187, 6, none⟩) (Kd.N_far (p := ⟨gb187, 5, none⟩) (Kd.N_far (p := ⟨gb187, 4, none⟩) (Kd.N_far (p := ⟨gb187, 3, none⟩) (Kd.N_far (p := ⟨gb187, 2, none⟩) (Kd.N_far (p := ⟨gb187, 1, none⟩) (Kd.N_far (p := ⟨gb187, 0, none⟩) (Kd.N_mono HO182.out (fun k_ hk => (⟨hk, hk.2⟩ : _ ∧ k_ ≠ gb187))) (fun _ hk => hk.2) (.int .i64 t174)) (fun _ hk => hk.2) (.int .i64 t175)) (fun _ hk => hk.2) (.string t176)) (fun _ hk => hk.2) (.slice Ao29 t177.length co29)) (fun _ hk => hk.2) (.slice Ao30 t180.length co30)) (fun _ hk => hk.2) (.slice Ao31 t183.length co31)) (fun _ hk => hk.2) (.int .i64 t186)) (fun _ h_ => h_.1)))); (case side4 => exact (Kd.N_reads' HO182.out).2.1); (case side5 => refine (Kd.N_reads' (e := 28) (base := w.heap.size) (ok := fun k_ => ((some k_ ≠ (.slice Ao29 t177.length co29 : Value).ownBlock ∧ some k_ ≠ (.slice Ao30 t180.length co30 : Value).ownBlock) ∧ k_ ≠ gb187)) (n := t183.length) (c := co31) ?_).2.2; exact (by (with_reducible repeat (first | apply Kd.N_alloc | apply Kd.N_drewN | apply Kd.N_drew)); exact (Kd.N_mono (Kd.N_far (p := ⟨gb187, 6, none⟩) (Kd.N_far (p := ⟨gb187, 5, none⟩) (Kd.N_far (p := ⟨gb187, 4, none⟩) (Kd.N_far (p := ⟨gb187, 3, none⟩) (Kd.N_far (p := ⟨gb187, 2, none⟩) (Kd.N_far (p := ⟨gb187, 1, none⟩) (Kd.N_far (p := ⟨gb187, 0, none⟩) (Kd.N_mono HO185.out (fun k_ hk => (⟨hk, hk.2⟩ : _ ∧ k_ ≠ gb187))) (fun _ hk => hk.2) (.int .i64 t174)) (fun _ hk => hk.2) (.int .i64 t175)) (fun _ hk => hk.2) (.string t176)) (fun _ hk => hk.2) (.slice Ao29 t177.length co29)) (fun _ hk => hk.2) (.slice Ao30 t180.length co30)) (fun _ hk => hk.2) (.slice Ao31 t183.length co31)) (fun _ hk => hk.2) (.int .i64 t186)) (fun _ h_ => h_.1)))); (case side6 => exact (Kd.N_reads' HO185.out).2.1); rintro e w32 ⟨rfl, hb⟩; refine ⟨_, rfl, ?_⟩; replace HO147 := gA (Kd.R_below (by (with_reducible repeat (first | apply Kd.R_alloc | apply Kd.R_drewN | apply Kd.R_drew)); exact (Kd.R_mono (Kd.R_far (p := ⟨gb187, 6, none⟩) (Kd.R_far (p := ⟨gb187, 5, none⟩) (Kd.R_far (p := ⟨gb187, 4, none⟩) (Kd.R_far (p := ⟨gb187, 3, none⟩) (Kd.R_far (p := ⟨gb187, 2, none⟩) (Kd.R_far (p := ⟨gb187, 1, none⟩) (Kd.R_far (p := ⟨gb187, 0, none⟩) (Kd.R_types HO147.out BK187.out (by decide)) (fun _ hk => hk.2) (.int .i64 t174)) (fun _ hk => hk.2) (.int .i64 t175)) (fun _ hk => hk.2) (.string t176)) (fun _ hk => hk.2) (.slice Ao29 t177.length co29)) (fun _ hk => hk.2) (.slice Ao30 t180.length co30)) (fun _ hk => hk.2) (.slice Ao31 t183.length co31)) (fun _ hk => hk.2) (.int .i64 t186)) (fun _ h_ => h_.1))) hb); replace HO150 := gA (Kd.N_below (by (with_reducible repeat (first | apply Kd.N_alloc | apply Kd.N_drewN | apply Kd.N_drew)); exact (Kd.N_mono (Kd.N_far (p := ⟨gb187, 6, none⟩) (Kd.N_far (p := ⟨gb187, 5, none⟩) (Kd.N_far (p := ⟨gb187, 4, none⟩) (Kd.N_far (p := ⟨gb187, 3, none⟩) (Kd.N_far (p := ⟨gb187, 2, none⟩) (Kd.N_far (p := ⟨gb187, 1, none⟩) (Kd.N_far (p := ⟨gb187, 0, none⟩) (Kd.N_mono HO150.out (fun k_ hk => (⟨hk, hk.2⟩ : _ ∧ k_ ≠ gb187))) (fun _ hk => hk.2) (.int .i64 t174)) (fun _ hk => hk.2) (.int .i64 t175)) (fun _ hk => hk.2) (.string t176)) (fun _ hk => hk.2) (.slice Ao29 t177.length co29)) (fun _ hk => hk.2) (.slice Ao30 t180.length co30)) (fun _ hk => hk.2) (.slice Ao31 t183.length co31)) (fun _ hk => hk.2) (.int .i64 t186)) (fun _ h_ => h_.1))) hb); replace HO153 := gA (Kd.N_below (by (with_reducible repeat (first | apply Kd.N_alloc | apply Kd.N_drewN | apply Kd.N_drew)); exact (Kd.N_mono (Kd.N_far (p := ⟨gb187, 6, none⟩) (Kd.N_far (p := ⟨gb187, 5, none⟩) (Kd.N_far (p := ⟨gb187, 4, none⟩) (Kd.N_far (p := ⟨gb187, 3, none⟩) (Kd.N_far (p := ⟨gb187, 2, none⟩) (Kd.N_far (p := ⟨gb187, 1, none⟩) (Kd.N_far (p := ⟨gb187, 0, none⟩) (Kd.N_mono HO153.out (fun k_ hk => (⟨hk, hk.2⟩ : _ ∧ k_ ≠ gb187))) (fun _ hk => hk.2) (.int .i64 t174)) (fun _ hk => hk.2) (.int .i64 t175)) (fun _ hk => hk.2) (.string t176)) (fun _ hk => hk.2) (.slice Ao29 t177.length co29)) (fun _ hk => hk.2) (.slice Ao30 t180.length co30)) (fun _ hk => hk.2) (.slice Ao31 t183.length co31)) (fun _ hk => hk.2) (.int .i64 t186)) (fun _ h_ => h_.1))) hb); replace HO160 := gA (Kd.N_below (by (with_reducible repeat (first | apply Kd.N_alloc | apply Kd.N_drewN | apply Kd.N_drew)); exact (Kd.N_mono (Kd.N_far (p := ⟨gb187, 6, none⟩) (Kd.N_far (p := ⟨gb187, 5, none⟩) (Kd.N_far (p := ⟨gb187, 4, none⟩) (Kd.N_far (p := ⟨gb187, 3, none⟩) (Kd.N_far (p := ⟨gb187, 2, none⟩) (Kd.N_far (p := ⟨gb187, 1, none⟩) (Kd.N_far (p := ⟨gb187, 0, none⟩) (Kd.N_mono HO160.out (fun k_ hk => (⟨hk, hk.2⟩ : _ ∧ k_ ≠ gb187))) (fun _ hk => hk.2) (.int .i64 t174)) (fun _ hk => hk.2) (.int .i64 t175)) (fun _ hk => hk.2) (.string t176)) (fun _ hk => hk.2) (.slice Ao29 t177.length co29)) (fun _ hk => hk.2) (.slice Ao30 t180.length co30)) (fun _ hk => hk.2) (.slice Ao31 t183.length co31)) (fun _ hk => hk.2) (.int .i64 t186)) (fun _ h_ => h_.1))) hb); replace HO166 := gA (Kd.R_below (by (with_reducible repeat (first | apply Kd.R_alloc | apply Kd.R_drewN | apply Kd.R_drew)); exact (Kd.R_mono (Kd.R_far (p := ⟨gb187, 6, none⟩) (Kd.R_far (p := ⟨gb187, 5, none⟩) (Kd.R_far (p := ⟨gb187, 4, none⟩) (Kd.R_far (p := ⟨gb187, 3, none⟩) (Kd.R_far (p := ⟨gb187, 2, none⟩) (Kd.R_far (p := ⟨gb187, 1, none⟩) (Kd.R_far (p := ⟨gb187, 0, none⟩) (Kd.R_types HO166.out BK187.out (by decide)) (fun _ hk => hk.2) (.int .i64 t174)) (fun _ hk => hk.2) (.int .i64 t175)) (fun _ hk => hk.2) (.string t176)) (fun _ hk => hk.2) (.slice Ao29 t177.length co29)) (fun _ hk => hk.2) (.slice Ao30 t180.length co30)) (fun _ hk => hk.2) (.slice Ao31 t183.length co31)) (fun _ hk => hk.2) (.int .i64 t186)) (fun _ h_ => h_.1))) hb); replace HO169 := gA (Kd.V_below (by (with_reducible repeat (first | apply Kd.V_alloc | apply Kd.V_drewN | apply Kd.V_drew)); exact (Kd.V_mono (Kd.V_far (p := ⟨gb187, 6, none⟩) (Kd.V_far (p := ⟨gb187, 5, none⟩) (Kd.V_far (p := ⟨gb187, 4, none⟩) (Kd.V_far (p := ⟨gb187, 3, none⟩) (Kd.V_far (p := ⟨gb187, 2, none⟩) (Kd.V_far (p := ⟨gb187, 1, none⟩) (Kd.V_far (p := ⟨gb187, 0, none⟩) (Kd.V_mono HO169.out (fun k_ hk => (⟨hk, hk.2⟩ : _ ∧ k_ ≠ gb187))) (fun _ hk => hk.2) (.int .i64 t174)) (fun _ hk => hk.2) (.int .i64 t175)) (fun _ hk => hk.2) (.string t176)) (fun _ hk => hk.2) (.slice Ao29 t177.length co29)) (fun _ hk => hk.2) (.slice Ao30 t180.length co30)) (fun _ hk => hk.2) (.slice Ao31 t183.length co31)) (fun _ hk => hk.2) (.int .i64 t186)) (fun _ h_ => h_.1))) hb); replace HO172 := gA (Kd.N_below (by (with_reducible repeat (first | apply Kd.N_alloc | apply Kd.N_drewN | apply Kd.N_drew)); exact (Kd.N_mono (Kd.N_far (p := ⟨gb187, 6, none⟩) (Kd.N_far (p := ⟨gb187, 5, none⟩) (Kd.N_far (p := ⟨gb187, 4, none⟩) (Kd.N_far (p := ⟨gb187, 3, none⟩) (Kd.N_far (p := ⟨gb187, 2, none⟩) (Kd.N_far (p := ⟨gb187, 1, none⟩) (Kd.N_far (p := ⟨gb187, 0, none⟩) (Kd.N_mono HO172.out (fun k_ hk => (⟨hk, hk.2⟩ : _ ∧ k_ ≠ gb187))) (fun _ hk => hk.2) (.int .i64 t174)) (fun _ hk => hk.2) (.int .i64 t175)) (fun _ hk => hk.2) (.string t176)) (fun _ hk => hk.2) (.slice Ao29 t177.length co29)) (fun _ hk => hk.2) (.slice Ao30 t180.length co30)) (fun _ hk => hk.2) (.slice Ao31 t183.length co31)) (fun _ hk => hk.2) (.int .i64 t186)) (fun _ h_ => h_.1))) hb); replace HO179 := gA (Kd.R_below (by (with_reducible repeat (first | apply Kd.R_alloc | apply Kd.R_drewN | apply Kd.R_drew)); exact (Kd.R_mono (Kd.R_far (p := ⟨gb187, 6, none⟩) (Kd.R_far (p := ⟨gb187, 5, none⟩) (Kd.R_far (p := ⟨gb187, 4, none⟩) (Kd.R_far (p := ⟨gb187, 3, none⟩) (Kd.R_far (p := ⟨gb187, 2, none⟩) (Kd.R_far (p := ⟨gb187, 1, none⟩) (Kd.R_far (p := ⟨gb187, 0, none⟩) (Kd.R_types HO179.out BK187.out (by decide)) (fun _ hk => hk.2) (.int .i64 t174)) (fun _ hk => hk.2) (.int .i64 t175)) (fun _ hk => hk.2) (.string t176)) (fun _ hk => hk.2) (.slice Ao29 t177.length co29)) (fun _ hk => hk.2) (.slice Ao30 t180.length co30)) (fun _ hk => hk.2) (.slice Ao31 t183.length co31)) (fun _ hk => hk.2) (.int .i64 t186)) (fun _ h_ => h_.1))) hb); replace HO182 := gA (Kd.N_below (by (with_reducible repeat (first | apply Kd.N_alloc | apply Kd.N_drewN | apply Kd.N_drew)); exact (Kd.N_mono (Kd.N_far (p := ⟨gb187, 6, none⟩) (Kd.N_far (p := ⟨gb187, 5, none⟩) (Kd.N_far (p := ⟨gb187, 4, none⟩) (Kd.N_far (p := ⟨gb187, 3, none⟩) (Kd.N_far (p := ⟨gb187, 2, none⟩) (Kd.N_far (p := ⟨gb187, 1, none⟩) (Kd.N_far (p := ⟨gb187, 0, none⟩) (Kd.N_mono HO182.out (fun k_ hk => (⟨hk, hk.2⟩ : _ ∧ k_ ≠ gb187))) (fun _ hk => hk.2) (.int .i64 t174)) (fun _ hk => hk.2) (.int .i64 t175)) (fun _ hk => hk.2) (.string t176)) (fun _ hk => hk.2) (.slice Ao29 t177.length co29)) (fun _ hk => hk.2) (.slice Ao30 t180.length co30)) (fun _ hk => hk.2) (.slice Ao31 t183.length co31)) (fun _ hk => hk.2) (.int .i64 t186)) (fun _ h_ => h_.1))) hb); replace HO185 := gA (Kd.N_below (by (with_reducible repeat (first | apply Kd.N_alloc | apply Kd.N_drewN | apply Kd.N_drew)); exact (Kd.N_mono (Kd.N_far (p := ⟨gb187, 6, none⟩) (Kd.N_far (p := ⟨gb187, 5, none⟩) (Kd.N_far (p := ⟨gb187, 4, none⟩) (Kd.N_far (p := ⟨gb187, 3, none⟩) (Kd.N_far (p := ⟨gb187, 2, none⟩) (Kd.N_far (p := ⟨gb187, 1, none⟩) (Kd.N_far (p := ⟨gb187, 0, none⟩) (Kd.N_mono HO185.out (fun k_ hk => (⟨hk, hk.2⟩ : _ ∧ k_ ≠ gb187))) (fun _ hk => hk.2) (.int .i64 t174)) (fun _ hk => hk.2) (.int .i64 t175)) (fun _ hk => hk.2) (.string t176)) (fun _ hk => hk.2) (.slice Ao29 t177.length co29)) (fun _ hk => hk.2) (.slice Ao30 t180.length co30)) (fun _ hk => hk.2) (.slice Ao31 t183.length co31)) (fun _ hk => hk.2) (.int .i64 t186)) (fun _ h_ => h_.1))) hb); replace BK187 := gA (blk_below (g := gb187) (o := .cells #[.int .i64 t174, .int .i64 t175, .string t176, .slice Ao29 t177.length co29, .slice Ao30 t180.length co30, .slice Ao31 t183.length co31, .int .i64 t186] 28 (0, 0)) (by refine blk_put (cs := #[.int .i64 t174, .int .i64 t175, .string t176, .slice Ao29 t177.length co29, .slice Ao30 t180.length co30, .slice Ao31 t183.length co31, .int .i64 0]) ?_ 6 _ rfl; refine blk_put (cs := #[.int .i64 t174, .int .i64 t175, .string t176, .slice Ao29 t177.length co29, .slice Ao30 t180.length co30, .slice none 0 0, .int .i64 0]) ?_ 5 _ rfl; refine blk_put (cs := #[.int .i64 t174, .int .i64 t175, .string t176, .slice Ao29 t177.length co29, .slice none 0 0, .slice none 0 0, .int .i64 0]) ?_ 4 _ rfl; refine blk_put (cs := #[.int .i64 t174, .int .i64 t175, .string t176, .slice none 0 0, .slice none 0 0, .slice none 0 0, .int .i64 0]) ?_ 3 _ rfl; refine blk_put (cs := #[.int .i64 t174, .int .i64 t175, .string (⟨#[]⟩ : ByteArray), .slice none 0 0, .slice none 0 0, .slice none 0 0, .int .i64 0]) ?_ 2 _ rfl; refine blk_put (cs := #[.int .i64 t174, .int .i64 0, .string (⟨#[]⟩ : ByteArray), .slice none 0 0, .slice none 0 0, .slice none 0 0, .int .i64 0]) ?_ 1 _ rfl; refine blk_put (cs := #[.int .i64 0, .int .i64 0, .string (⟨#[]⟩ : ByteArray), .slice none 0 0, .slice none 0 0, .slice none 0 0, .int .i64 0]) ?_ 0 _ rfl; exact gK BK187) hb); replace HB := gA (below_step (by repeat first | exact gB HB | refine below_set ?_ GE187.out) hb); (try clear hb); (try clear hk)) | ((with_reducible refine gate_dst (N := 2) rfl ?_); refine box_event ?hg (N := 2) ?hd (cs := #[.int .i64 0, .int .i64 0, .int .i64 0]) (t := 33) ?hr ?_; (case hd => rfl); (case hg => rfl); (case hr => first | (go_simp; done) | (go_simp; rfl)); intro gb191 hg w33 hbox hb; replace HO147 := gA (Kd.R_below (gR HO147) hb); replace HO150 := gA (Kd.N_below (Kd.N_elderB (gN HO150) gb191 (Nat.le_of_eq hg.symm)) hb); replace HO153 := gA (Kd.N_below (Kd.N_elderB (gN HO153) gb191 (Nat.le_of_eq hg.symm)) hb); replace HO160 := gA (Kd.N_below (Kd.N_elderB (gN HO160) gb191 (Nat.le_of_eq hg.symm)) hb); replace HO166 := gA (Kd.R_below (gR HO166) hb); replace HO169 := gA (Kd.V_below (Kd.V_elderB (gV HO169) gb191 (Nat.le_of_eq hg.symm)) hb); replace HO172 := gA (Kd.N_below (Kd.N_elderB (gN HO172) gb191 (Nat.le_of_eq hg.symm)) hb); replace HO179 := gA (Kd.R_below (gR HO179) hb); replace HO182 := gA (Kd.N_below (Kd.N_elderB (gN HO182) gb191 (Nat.le_of_eq hg.symm)) hb); replace HO185 := gA (Kd.N_below (Kd.N_elderB (gN HO185) gb191 (Nat.le_of_eq hg.symm)) hb); have BK191 := gA (hbox); have GW191 := gA ((by rw [hg]; exact (below_size (gB HB)) : w.heap.size ≤ gb191)); have GE191 := gA ((by rw [hg]; exact (below_size (gB HB)) : w.heap.size ≤ gb191)); replace HB := gA (below_step (gB HB) hb); have NB187_191 := gA ((by rw [hg]; exact Nat.ne_of_lt (blk_lt (gK BK187)) : gb187 ≠ gb191)); have NB191_187 := gA ((by rw [hg]; exact Nat.ne_of_gt (blk_lt (gK BK187)) : gb191 ≠ gb187)); replace BK187 := gA (blk_below (gK BK187) hb); clear hb hbox hg; have hnb34 := NB191_187.out; have hnc34 := NB187_191.out; obtain ⟨hcz35_0, hcz35_1, hcz35_2, hfz35_0, hfz35_1, hfz35_2⟩ := gz3 BK191; have hcz36_0 := gz BK187 0 rfl; have hcz36_1 := gz BK187 1 rfl; have hcz36_2 := gz BK187 2 rfl; have hcz36_3 := gz BK187 3 rfl; have hcz36_4 := gz BK187 4 rfl; have hcz36_5 := gz BK187 5 rfl; have hcz36_6 := gz BK187 6 rfl; have hfz36_0 := blk_frozen BK187.out 0; have hfz36_1 := blk_frozen BK187.out 1; have hfz36_2 := blk_frozen BK187.out 2; have hfz36_3 := blk_frozen BK187.out 3; have hfz36_4 := blk_frozen BK187.out 4; have hfz36_5 := blk_frozen BK187.out 5; have hfz36_6 := blk_frozen BK187.out 6) | ((with_reducible refine gate_callee (f := 8) rfl ?_); refine goesL_ (some 10) rfl rfl Try.func8 (by kernel_rfl) rfl #[.int .i64 0, .agg #[.int .i64 t174, .int .i64 t175, .string t176, .slice Ao29 t177.length co29, .slice Ao30 t180.length co30, .slice Ao31 t183.length co31, .int .i64 t186]] rfl (by (try simp only [List.map_toArray, List.map_cons, List.map_nil]); first | done | rfl | (simp only [List.length_drop, List.length_take]; rfl)) ?_; (with_reducible refine (frag_Fits.calls k 0 t174 t175 t176 _ _ t177 _ _ t180 _ _ t183 t186 t192 t193 t194 _ ?side1 ?side2 ?side3 ?side4 ?side5 ?side6 A6.out).mono ?_); (case side1 => refine (Kd.R_reads' (e := 3) (base := w.heap.size) (ok := fun k_ => ((True ∧ some k_ ≠ (.slice Ao20 t145.length co20 : Value).ownBlock) ∧ some k_ ≠ (.slice Ao23 t164.length co23 : Value).ownBlock)) (n := t177.length) (c := co29) ?_).2.2; exact (by (with_reducible repeat (first | apply Kd.R_alloc | apply Kd.R_drewN | apply Kd.R_drew)); exact (Kd.R_mono (Kd.R_far (p := ⟨gb191, 2, none⟩) (Kd.R_far (p := ⟨gb191, 1, none⟩) (Kd.R_far (p := ⟨gb191, 0, none⟩) (Kd.R_types HO179.out BK191.out (by decide)) (fun _ hk => hk.2) (.int .i64 t188)) (fun _ hk => hk.2) (.int .i64 t189)) (fun _ hk => hk.2) (.int .i64 t190)) (fun _ h_ => h_.1)))); (case side2 => exact (Kd.R_reads' HO179.out).2.1); (case side3 => refine (Kd.N_reads' (e := 57) (base := w.heap.size) (ok := fun k_ => (((some k_ ≠ (.slice Ao29 t177.length co29 : Value).ownBlock ∧ some k_ ≠ (.slice Ao31 t183.length co31 : Value).ownBlock) ∧ k_ ≠ gb187) ∧ k_ ≠ gb191)) (n := t180.length) (c := co30) ?_).2.2; exact (by (with_reducible repeat (first | apply Kd.N_alloc | apply Kd.N_drewN | apply Kd.N_drew)); exact (Kd.N_mono (Kd.N_far (p := ⟨gb191, 2, none⟩) (Kd.N_far (p := ⟨gb191, 1, none⟩) (Kd.N_far (p := ⟨gb191, 0, none⟩) (Kd.N_mono HO182.out (fun k_ hk => (⟨hk, hk.2⟩ : _ ∧ k_ ≠ gb191))) (fun _ hk => hk.2) (.int .i64 t188)) (fun _ hk => hk.2) (.int .i64 t189)) (fun _ hk => hk.2) (.int .i64 t190)) (fun _ h_ => h_.1)))); (case side4 => exact (Kd.N_reads' HO182.out).2.1); (case side5 => refine (Kd.N_reads' (e := 28) (base := w.heap.size) (ok := fun k_ => (((some k_ ≠ (.slice Ao29 t177.length co29 : Value).ownBlock ∧ some k_ ≠ (.slice Ao30 t180.length co30 : Value).ownBlock) ∧ k_ ≠ gb187) ∧ k_ ≠ gb191)) (n := t183.length) (c := co31) ?_).2.2; exact (by (with_reducible repeat (first | apply Kd.N_alloc | apply Kd.N_drewN | apply Kd.N_drew)); exact (Kd.N_mono (Kd.N_far (p := ⟨gb191, 2, none⟩) (Kd.N_far (p := ⟨gb191, 1, none⟩) (Kd.N_far (p := ⟨gb191, 0, none⟩) (Kd.N_mono HO185.out (fun k_ hk => (⟨hk, hk.2⟩ : _ ∧ k_ ≠ gb191))) (fun _ hk => hk.2) (.int .i64 t188)) (fun _ hk => hk.2) (.int .i64 t189)) (fun _ hk => hk.2) (.int .i64 t190)) (fun _ h_ => h_.1)))); (case side6 => exact (Kd.N_reads' HO185.out).2.1); rintro e w37 ⟨rfl, hb⟩; refine ⟨_, rfl, ?_⟩; replace HO147 := gA (Kd.R_below (by (with_reducible repeat (first | apply Kd.R_alloc | apply Kd.R_drewN | apply Kd.R_drew)); exact (Kd.R_mono (Kd.R_far (p := ⟨gb191, 2, none⟩) (Kd.R_far (p := ⟨gb191, 1, none⟩) (Kd.R_far (p := ⟨gb191, 0, none⟩) (Kd.R_types HO147.out BK191.out (by decide)) (fun _ hk => hk.2) (.int .i64 t188)) (fun _ hk => hk.2) (.int .i64 t189)) (fun _ hk => hk.2) (.int .i64 t190)) (fun _ h_ => h_.1))) hb); replace HO150 := gA (Kd.N_below (by (with_reducible repeat (first | apply Kd.N_alloc | apply Kd.N_drewN | apply Kd.N_drew)); exact (Kd.N_mono (Kd.N_far (p := ⟨gb191, 2, none⟩) (Kd.N_far (p := ⟨gb191, 1, none⟩) (Kd.N_far (p := ⟨gb191, 0, none⟩) (Kd.N_mono HO150.out (fun k_ hk => (⟨hk, hk.2⟩ : _ ∧ k_ ≠ gb191))) (fun _ hk => hk.2) (.int .i64 t188)) (fun _ hk => hk.2) (.int .i64 t189)) (fun _ hk => hk.2) (.int .i64 t190)) (fun _ h_ => h_.1))) hb); replace HO153 := gA (Kd.N_below (by (with_reducible repeat (first | apply Kd.N_alloc | apply Kd.N_drewN | apply Kd.N_drew)); exact (Kd.N_mono (Kd.N_far (p := ⟨gb191, 2, none⟩) (Kd.N_far (p := ⟨gb191, 1, none⟩) (Kd.N_far (p := ⟨gb191, 0, none⟩) (Kd.N_mono HO153.out (fun k_ hk => (⟨hk, hk.2⟩ : _ ∧ k_ ≠ gb191))) (fun _ hk => hk.2) (.int .i64 t188)) (fun _ hk => hk.2) (.int .i64 t189)) (fun _ hk => hk.2) (.int .i64 t190)) (fun _ h_ => h_.1))) hb); replace HO160 := gA (Kd.N_below (by (with_reducible repeat (first | apply Kd.N_alloc | apply Kd.N_drewN | apply Kd.N_drew)); exact (Kd.N_mono (Kd.N_far (p := ⟨gb191, 2, none⟩) (Kd.N_far (p := ⟨gb191, 1, none⟩) (Kd.N_far (p := ⟨gb191, 0, none⟩) (Kd.N_mono HO160.out (fun k_ hk => (⟨hk, hk.2⟩ : _ ∧ k_ ≠ gb191))) (fun _ hk => hk.2) (.int .i64 t188)) (fun _ hk => hk.2) (.int .i64 t189)) (fun _ hk => hk.2) (.int .i64 t190)) (fun _ h_ => h_.1))) hb); replace HO166 := gA (Kd.R_below (by (with_reducible repeat (first | apply Kd.R_alloc | apply Kd.R_drewN | apply Kd.R_drew)); exact (Kd.R_mono (Kd.R_far (p := ⟨gb191, 2, none⟩) (Kd.R_far (p := ⟨gb191, 1, none⟩) (Kd.R_far (p := ⟨gb191, 0, none⟩) (Kd.R_types HO166.out BK191.out (by decide)) (fun _ hk => hk.2) (.int .i64 t188)) (fun _ hk => hk.2) (.int .i64 t189)) (fun _ hk => hk.2) (.int .i64 t190)) (fun _ h_ => h_.1))) hb); replace HO169 := gA (Kd.V_below (by (with_reducible repeat (first | apply Kd.V_alloc | apply Kd.V_drewN | apply Kd.V_drew)); exact (Kd.V_mono (Kd.V_far (p := ⟨gb191, 2, none⟩) (Kd.V_far (p := ⟨gb191, 1, none⟩) (Kd.V_far (p := ⟨gb191, 0, none⟩) (Kd.V_mono HO169.out (fun k_ hk => (⟨hk, hk.2⟩ : _ ∧ k_ ≠ gb191))) (fun _ hk => hk.2) (.int .i64 t188)) (fun _ hk => hk.2) (.int .i64 t189)) (fun _ hk => hk.2) (.int .i64 t190)) (fun _ h_ => h_.1))) hb); replace HO172 := gA (Kd.N_below (by (with_reducible repeat (first | apply Kd.N_alloc | apply Kd.N_drewN | apply Kd.N_drew)); exact (Kd.N_mono (Kd.N_far (p := ⟨gb191, 2, none⟩) (Kd.N_far (p := ⟨gb191, 1, none⟩) (Kd.N_far (p := ⟨gb191, 0, none⟩) (Kd.N_mono HO172.out (fun k_ hk => (⟨hk, hk.2⟩ : _ ∧ k_ ≠ gb191))) (fun _ hk => hk.2) (.int .i64 t188)) (fun _ hk => hk.2) (.int .i64 t189)) (fun _ hk => hk.2) (.int .i64 t190)) (fun _ h_ => h_.1))) hb); replace HO179 := gA (Kd.R_below (by (with_reducible repeat (first | apply Kd.R_alloc | apply Kd.R_drewN | apply Kd.R_drew)); exact (Kd.R_mono (Kd.R_far (p := ⟨gb191, 2, none⟩) (Kd.R_far (p := ⟨gb191, 1, none⟩) (Kd.R_far (p := ⟨gb191, 0, none⟩) (Kd.R_types HO179.out BK191.out (by decide)) (fun _ hk => hk.2) (.int .i64 t188)) (fun _ hk => hk.2) (.int .i64 t189)) (fun _ hk => hk.2) (.int .i64 t190)) (fun _ h_ => h_.1))) hb); replace HO182 := gA (Kd.N_below (by (with_reducible repeat (first | apply Kd.N_alloc | apply Kd.N_drewN | apply Kd.N_drew)); exact (Kd.N_mono (Kd.N_far (p := ⟨gb191, 2, none⟩) (Kd.N_far (p := ⟨gb191, 1, none⟩) (Kd.N_far (p := ⟨gb191, 0, none⟩) (Kd.N_mono HO182.out (fun k_ hk => (⟨hk, hk.2⟩ : _ ∧ k_ ≠ gb191))) (fun _ hk => hk.2) (.int .i64 t188)) (fun _ hk => hk.2) (.int .i64 t189)) (fun _ hk => hk.2) (.int .i64 t190)) (fun _ h_ => h_.1))) hb); replace HO185 := gA (Kd.N_below (by (with_reducible repeat (first | apply Kd.N_alloc | apply Kd.N_drewN | apply Kd.N_drew)); exact (Kd.N_mono (Kd.N_far (p := ⟨gb191, 2, none⟩) (Kd.N_far (p := ⟨gb191, 1, none⟩) (Kd.N_far (p := ⟨gb191, 0, none⟩) (Kd.N_mono HO185.out (fun k_ hk => (⟨hk, hk.2⟩ : _ ∧ k_ ≠ gb191))) (fun _ hk => hk.2) (.int .i64 t188)) (fun _ hk => hk.2) (.int .i64 t189)) (fun _ hk => hk.2) (.int .i64 t190)) (fun _ h_ => h_.1))) hb); replace BK187 := gA (blk_below (g := gb187) (o := .cells #[.int .i64 t174, .int .i64 t175, .string t176, .slice Ao29 t177.length co29, .slice Ao30 t180.length co30, .slice Ao31 t183.length co31, .int .i64 t186] 28 (0, 0)) (by refine blk_far ?_ NB187_191.out _; refine blk_far ?_ NB187_191.out _; refine blk_far ?_ NB187_191.out _; exact gK BK187) hb); replace BK191 := gA (blk_below (g := gb191) (o := .cells #[.int .i64 t188, .int .i64 t189, .int .i64 t190] 33 (0, 0)) (by refine blk_put (cs := #[.int .i64 t188, .int .i64 t189, .int .i64 0]) ?_ 2 _ rfl; refine blk_put (cs := #[.int .i64 t188, .int .i64 0, .int .i64 0]) ?_ 1 _ rfl; refine blk_put (cs := #[.int .i64 0, .int .i64 0, .int .i64 0]) ?_ 0 _ rfl; exact gK BK191) hb); replace HB := gA (below_step (by repeat first | exact gB HB | refine below_set ?_ GE187.out | refine below_set ?_ GE191.out) hb); (try clear hb); (try clear hk); obtain ⟨hcz38_0, hcz38_1, hcz38_2, hfz38_0, hfz38_1, hfz38_2⟩ := gz3 BK191; have hcz39_0 := gz BK187 0 rfl; have hcz39_1 := gz BK187 1 rfl; have hcz39_2 := gz BK187 2 rfl; have hcz39_3 := gz BK187 3 rfl; have hcz39_4 := gz BK187 4 rfl; have hcz39_5 := gz BK187 5 rfl; have hcz39_6 := gz BK187 6 rfl; have hfz39_0 := blk_frozen BK187.out 0; have hfz39_1 := blk_frozen BK187.out 1; have hfz39_2 := blk_frozen BK187.out 2; have hfz39_3 := blk_frozen BK187.out 3; have hfz39_4 := blk_frozen BK187.out 4; have hfz39_5 := blk_frozen BK187.out 5; have hfz39_6 := blk_frozen BK187.out 6) | (go_at_call 8; (with_reducible refine (frag_Fits.calls k 3 t174 t175 t176 _ _ t177 _ _ t180 _ _ t183 t186 t195 t196 t197 _ ?side1 ?side2 ?side3 ?side4 ?side5 ?side6 A10.out).mono ?_); (case side1 => repeat (first | exact (Kd.R_reads' HO179.out).2.2 | (with_reducible refine Kd.C_alloc ?_ _) | (with_reducible refine Kd.C_drewN ?_ _) | (with_reducible refine Kd.C_drew ?_))); (case side2 => exact (Kd.R_reads' HO179.out).2.1); (case side3 => repeat (first | exact (Kd.N_reads' HO182.out).2.2 | (with_reducible refine Kd.C_alloc ?_ _) | (with_reducible refine Kd.C_drewN ?_ _) | (with_reducible refine Kd.C_drew ?_))); (case side4 => exact (Kd.N_reads' HO182.out).2.1); (case side5 => repeat (first | exact (Kd.N_reads' HO185.out).2.2 | (with_reducible refine Kd.C_alloc ?_ _) | (with_reducible refine Kd.C_drewN ?_ _) | (with_reducible refine Kd.C_drew ?_))); (case side6 => exact (Kd.N_reads' HO185.out).2.1); rintro e w40 ⟨rfl, hb⟩; replace HO147 := gA (Kd.R_below (gR HO147) hb); replace HO150 := gA (Kd.N_below (gN HO150) hb); replace HO153 := gA (Kd.N_below (gN HO153) hb); replace HO160 := gA (Kd.N_below (gN HO160) hb); replace HO166 := gA (Kd.R_below (gR HO166) hb); replace HO169 := gA (Kd.V_below (gV HO169) hb); replace HO172 := gA (Kd.N_below (gN HO172) hb); replace HO179 := gA (Kd.R_below (gR HO179) hb); replace HO182 := gA (Kd.N_below (gN HO182) hb); replace HO185 := gA (Kd.N_below (gN HO185) hb); replace BK187 := gA (blk_below (gK BK187) hb); replace BK191 := gA (blk_below (gK BK191) hb); replace HB := gA (below_step (gB HB) hb); (try clear hb); (try clear hk)) | (go_at_call 11; (with_reducible refine (frag_Says.calls k 2 21 true _ A12.out).mono ?_); rintro e w' ⟨rfl, ⟨nd, rfl⟩⟩) | (go_at_call 11; (with_reducible refine (frag_Says.calls k 2 2 t199 _ A14.out).mono ?_); rintro e w' ⟨rfl, ⟨nd, rfl⟩⟩))
  go_ret
  exact ⟨rfl, by repeat first | exact gB HB | refine below_set ?_ GE187.out | refine below_set ?_ GE191.out⟩
 ·replace c13 := Bool.eq_false_iff.mpr c13
  subst c13
  have H1 : (none) = some r := by rw [if_neg (show ¬ (false = true) by decide)] at H; exact H
  clear H; have H := H1; clear H1
  exact absurd H (by simp)
mutual
def triglyphref10_Size.l0 : Nat → Int → Int → Int → Int → ByteArray → List Int → List (S57) → List (S28) → Int → Option (Int)
 | 0, _, _, _, _, _, _, _, _, _ => none
 | k + 1, x3, x4, x201000, x201001, x201002, x201003, x201004, x201005, x201006 => if x4 < (x201005.length : Int) then (if 0 ≤ x4 then ((triglyphref10_Size.f k ((rd_T28 x201005 x4).f0) ((rd_T28 x201005 x4).f1) ((rd_T28 x201005 x4).f2) ((rd_T28 x201005 x4).f3.f0) ((rd_T28 x201005 x4).f3.f1) ((rd_T28 x201005 x4).f4) ((rd_T28 x201005 x4).f5)).bind fun t202 => (triglyphref10_Size.l0 k (wrap64 (x3 + t202)) (wrap64 (x4 + 1)) x201000 x201001 x201002 x201003 x201004 x201005 x201006)) else (none)) else (some x3)
def triglyphref10_Size.f : Nat → Int → Int → ByteArray → List Int → List (S57) → List (S28) → Int → Option (Int)
 | 0, _, _, _, _, _, _, _ => none
 | k + 1, a0_0, a0_1, a0_2, l0_3, l0_4, l0_5, a0_6 => triglyphref10_Size.l0 k 1 0 a0_0 a0_1 a0_2 l0_3 l0_4 l0_5 a0_6
end
theorem triglyphref10_Size.mono_l : ∀ k, (∀ y0 y1 y2 y3 y4 y5 y6, LeO (triglyphref10_Size.f k y0 y1 y2 y3 y4 y5 y6) (triglyphref10_Size.f (k + 1) y0 y1 y2 y3 y4 y5 y6)) ∧ (∀ y0 y1 y2 y3 y4 y5 y6 y7 y8, LeO (triglyphref10_Size.l0 k y0 y1 y2 y3 y4 y5 y6 y7 y8) (triglyphref10_Size.l0 (k + 1) y0 y1 y2 y3 y4 y5 y6 y7 y8))
 | 0 => ⟨fun _ _ _ _ _ _ _ r h => by simp [triglyphref10_Size.f] at h, fun _ _ _ _ _ _ _ _ _ r h => by simp [triglyphref10_Size.l0] at h⟩
 | k + 1 => by
  obtain ⟨ih0, ih1⟩ := triglyphref10_Size.mono_l k
  refine ⟨?_, ?_⟩
  ·intro y0 y1 y2 y3 y4 y5 y6
   unfold triglyphref10_Size.f
   repeat' first
   | (with_reducible exact ih0 _ _ _ _ _ _ _)
   | (with_reducible exact ih1 _ _ _ _ _ _ _ _ _)
   | (with_reducible exact LeO.refl _)
   | (with_reducible exact LeO.none _)
   | (with_reducible refine LeO.ite ?_ ?_)
   | (with_reducible refine LeO.bind ?_ (fun _ => ?_))





  ·intro y0 y1 y2 y3 y4 y5 y6 y7 y8
   unfold triglyphref10_Size.l0
   repeat' first
   | (with_reducible exact ih0 _ _ _ _ _ _ _)
   | (with_reducible exact ih1 _ _ _ _ _ _ _ _ _)
   | (with_reducible exact LeO.refl _)
   | (with_reducible exact LeO.none _)
   | (with_reducible refine LeO.ite ?_ ?_)
   | (with_reducible refine LeO.bind ?_ (fun _ => ?_))
theorem triglyphref10_Size.mono : ∀ a0 a1 a2 a3 a4 a5 a6 k, LeO (triglyphref10_Size.f k a0 a1 a2 a3 a4 a5 a6) (triglyphref10_Size.f (k + 1) a0 a1 a2 a3 a4 a5 a6) := by
 intro a0 a1 a2 a3 a4 a5 a6 k
 obtain ⟨ih0, ih1⟩ := triglyphref10_Size.mono_l k
 exact ih0 a0 a1 a2 a3 a4 a5 a6
set_option maxHeartbeats 8000000 in
set_option maxRecDepth 100000 in
theorem triglyphref10_Size.calls (k : Nat) : ∀ (a0_0 : Int) (a0_1 : Int) (a0_2 : ByteArray) (A0_3 : Option Addr) (c0_3 : Nat) (l0_3 : List Int) (A0_4 : Option Addr) (c0_4 : Nat) (l0_4 : List (S57)) (A0_5 : Option Addr) (c0_5 : Nat) (l0_5 : List (S28)) (a0_6 : Int) (r : Int) (w : World) (hr0_3 : Kd.C (Kd.int .i64) w A0_3 l0_3.length l0_3) (hc0_3 : l0_3.length ≤ c0_3) (hr0_4 : Kd.C k57 w A0_4 l0_4.length l0_4) (hc0_4 : l0_4.length ≤ c0_4) (hr0_5 : Kd.C k28 w A0_5 l0_5.length l0_5) (hc0_5 : l0_5.length ≤ c0_5) (h : triglyphref10_Size.f k a0_0 a0_1 a0_2 l0_3 l0_4 l0_5 a0_6 = some r),
  Calls Try.prog 24 #[.agg #[.int .i64 a0_0, .int .i64 a0_1, .string a0_2, .slice A0_3 l0_3.length c0_3, .slice A0_4 l0_4.length c0_4, .slice A0_5 l0_5.length c0_5, .int .i64 a0_6]] w fun e w' => e = .returned (.int .i64 r) ∧ Below w.heap.size w w' := by
 induction k using Nat.strongRecOn with
 | _ k ih =>
 intro a0_0 a0_1 a0_2 A0_3 c0_3 l0_3 A0_4 c0_4 l0_4 A0_5 c0_5 l0_5 a0_6 r w hr0_3 hc0_3 hr0_4 hc0_4 hr0_5 hc0_5 h
 cases k with
 | zero => exact absurd h (by simp [triglyphref10_Size.f])
 | succ k =>
 simp only [triglyphref10_Size.f] at h
 have hu28 := Try.underlying28
 have HR0_3 := gA hr0_3
 have HC0_3 := gA hc0_3
 clear hr0_3 hc0_3
 have HR0_4 := gA hr0_4
 have HC0_4 := gA hc0_4
 clear hr0_4 hc0_4
 have HR0_5 := gA hr0_5
 have HC0_5 := gA hc0_5
 clear hr0_5 hc0_5
 have HB := gA (Below.refl w.heap.size w)
 have H : (triglyphref10_Size.l0 k 1 0 a0_0 a0_1 a0_2 l0_3 l0_4 l0_5 a0_6) = some r := h
 clear h
 have H' := gA H
 clear H
 go_enter Try.func24, Try.ntmps24
 go_wp2_with (first | ((with_reducible refine gate_dst (N := 1) rfl ?_); refine box_event ?hg (N := 1) ?hd (cs := #[.int .i64 a0_0, .int .i64 a0_1, .string a0_2, .slice A0_3 l0_3.length c0_3, .slice A0_4 l0_4.length c0_4, .slice A0_5 l0_5.length c0_5, .int .i64 a0_6]) (t := 28) ?hr ?_; (case hd => rfl); (case hg => rfl); (case hr => first | (go_simp; done) | (go_simp; rfl)); intro gb200 hg w2 hbox hb; have BK200 := gA (hbox); have GW200 := gA ((by rw [hg]; exact (below_size (gB HB)) : w.heap.size ≤ gb200)); have GE200 := gA ((by rw [hg]; exact (below_size (gB HB)) : w.heap.size ≤ gb200)); replace HB := gA (below_step (gB HB) hb); clear hb hbox hg))
 go_loopg [3, 4] k (fun kq v3 v4 w' => ∃ (x3_1 : Int) (x4_1 : Int), v3 = .int .i64 x3_1 ∧ v4 = .int .i64 x4_1 ∧ Aside0 (triglyphref10_Size.l0 kq x3_1 x4_1 a0_0 a0_1 a0_2 l0_3 l0_4 l0_5 a0_6 = some r) ∧ Aside0 (kq ≤ k) ∧ Aside0 (w'.heap[gb200]? = some (.cells #[.int .i64 a0_0, .int .i64 a0_1, .string a0_2, (.slice A0_3 l0_3.length c0_3), (.slice A0_4 l0_4.length c0_4), (.slice A0_5 l0_5.length c0_5), .int .i64 a0_6] 28 (0, 0))) ∧ Aside0 (Below w.heap.size w w'))
 case atStart => exact ⟨(1), (0), (rfl), (rfl), H', ⟨Nat.le_refl _⟩, ⟨gK BK200⟩, ⟨by repeat first | exact gB HB | refine below_set ?_ GE200.out⟩⟩
 case round =>
  clear H'
  try clear c2
  try clear p2
  obtain ⟨x3_1, x4_1, rfl, rfl, HA, HK1, BK200, HB⟩ := hrel
  cases gk with
  | zero => exact absurd HA.out (by simp [triglyphref10_Size.l0])
  | succ k1 =>
   have H := HA.out; clear HA
   simp only [triglyphref10_Size.l0] at H
   by_cases c3 : x4_1 < (l0_5.length : Int)
   ·rw [if_pos c3] at H
    have c3b0 := decide_eq_true c3
    clear c3
    obtain ⟨c4, H⟩ := iS H
    have c4b0 := decide_eq_true c4
    clear c4
    replace H := Option.bind_eq_some_iff.mp H
    obtain ⟨t202, A50, H⟩ := H
    replace H : (triglyphref10_Size.l0 k1 (wrap64 (x3_1 + t202)) (wrap64 (x4_1 + 1)) a0_0 a0_1 a0_2 l0_3 l0_4 l0_5 a0_6) = some r := H
    have A5 := gA A50
    clear A50
    have H' := gA H
    clear H
    have hcz6_0 := gz BK200 0 rfl
    have hcz6_1 := gz BK200 1 rfl
    have hcz6_2 := gz BK200 2 rfl
    have hcz6_3 := gz BK200 3 rfl
    have hcz6_4 := gz BK200 4 rfl
    have hcz6_5 := gz BK200 5 rfl
    have hcz6_6 := gz BK200 6 rfl
    have hfz6_0 := blk_frozen BK200.out 0
    have hfz6_1 := blk_frozen BK200.out 1
    have hfz6_2 := blk_frozen BK200.out 2
    have hfz6_3 := blk_frozen BK200.out 3
    have hfz6_4 := blk_frozen BK200.out 4
    have hfz6_5 := blk_frozen BK200.out 5
    have hfz6_6 := blk_frozen BK200.out 6
    have p201 : 0 ≤ (x4_1 : Int) := of_decide_eq_true (by assumption)
    have q201 : x4_1 < (l0_5.length : Int) := of_decide_eq_true (by assumption)
    obtain ⟨ad201, A201_3, c201_3, A201_4, c201_4, A201_5, c201_5, e201, hx201_0, hx201_1, hx201_2, hx201_3, hx201_4, hx201_5, hx201_6, hl201_3, hi201_3, hl201_4, hi201_4, hl201_5, hi201_5⟩ := at_T28 HR0_5.out x4_1 p201 q201
    cases e201
    replace hx201_0 := (HB.out.cell (World.block_lt_of_cell? w _ hx201_0)).trans hx201_0
    replace hx201_1 := (HB.out.cell (World.block_lt_of_cell? w _ hx201_1)).trans hx201_1
    replace hx201_2 := (HB.out.cell (World.block_lt_of_cell? w _ hx201_2)).trans hx201_2
    replace hx201_3 := (HB.out.cell (World.block_lt_of_cell? w _ hx201_3)).trans hx201_3
    replace hx201_4 := (HB.out.cell (World.block_lt_of_cell? w _ hx201_4)).trans hx201_4
    replace hx201_5 := (HB.out.cell (World.block_lt_of_cell? w _ hx201_5)).trans hx201_5
    replace hx201_6 := (HB.out.cell (World.block_lt_of_cell? w _ hx201_6)).trans hx201_6
    have HR201_3 := gA hi201_3
    have HC201_3 := gA hl201_3
    clear hi201_3 hl201_3
    have HR201_4 := gA hi201_4
    have HC201_4 := gA hl201_4
    clear hi201_4 hl201_4
    have HR201_5 := gA hi201_5
    have HC201_5 := gA hl201_5
    clear hi201_5 hl201_5
    replace p201 := eq_true p201
    replace q201 := eq_true q201
    go_wp2_with (first | ((with_reducible refine gate_callee (f := 24) rfl ?_); refine goesL_ (some 18) rfl rfl Try.func24 (by kernel_rfl) rfl #[.agg #[.int .i64 ((rd_T28 l0_5 x4_1).f0), .int .i64 ((rd_T28 l0_5 x4_1).f1), .string ((rd_T28 l0_5 x4_1).f2), .slice A201_3 ((rd_T28 l0_5 x4_1).f3.f0).length c201_3, .slice A201_4 ((rd_T28 l0_5 x4_1).f3.f1).length c201_4, .slice A201_5 ((rd_T28 l0_5 x4_1).f4).length c201_5, .int .i64 ((rd_T28 l0_5 x4_1).f5)]] rfl (by (try simp only [List.map_toArray, List.map_cons, List.map_nil]); first | done | rfl | (simp only [List.length_drop, List.length_take]; rfl)) ?_; (with_reducible refine (ih k1 (by have := HK1.out; omega) ((rd_T28 l0_5 x4_1).f0) ((rd_T28 l0_5 x4_1).f1) ((rd_T28 l0_5 x4_1).f2) _ _ ((rd_T28 l0_5 x4_1).f3.f0) _ _ ((rd_T28 l0_5 x4_1).f3.f1) _ _ ((rd_T28 l0_5 x4_1).f4) ((rd_T28 l0_5 x4_1).f5) t202 _ ?side1 ?side2 ?side3 ?side4 ?side5 ?side6 A5.out).mono ?_); (case side1 => exact gC HR201_3 HB); (case side2 => exact HC201_3.out); (case side3 => exact gC HR201_4 HB); (case side4 => exact HC201_4.out); (case side5 => exact gC HR201_5 HB); (case side6 => exact HC201_5.out); rintro e w7 ⟨rfl, hb⟩; refine ⟨_, rfl, ?_⟩; replace BK200 := gA (blk_below (gK BK200) hb); replace HB := gA (below_step (gB HB) hb); (try clear hb)))
    go_roundg k1
    case measure => have := HK1.out; omega
    case rel => exact ⟨(wrap64 (x3_1 + t202)), (wrap64 (x4_1 + 1)), (rfl), (rfl), H', ⟨by have := HK1.out; omega⟩, ⟨gK BK200⟩, ⟨by repeat first | exact gB HB | refine below_set ?_ GE200.out⟩⟩
   ·rw [if_neg c3] at H
    have c3b0 := decide_eq_false c3
    clear c3
    obtain rfl := Option.some.inj H
    have hcz8_0 := gz BK200 0 rfl
    have hcz8_1 := gz BK200 1 rfl
    have hcz8_2 := gz BK200 2 rfl
    have hcz8_3 := gz BK200 3 rfl
    have hcz8_4 := gz BK200 4 rfl
    have hcz8_5 := gz BK200 5 rfl
    have hcz8_6 := gz BK200 6 rfl
    have hfz8_0 := blk_frozen BK200.out 0
    have hfz8_1 := blk_frozen BK200.out 1
    have hfz8_2 := blk_frozen BK200.out 2
    have hfz8_3 := blk_frozen BK200.out 3
    have hfz8_4 := blk_frozen BK200.out 4
    have hfz8_5 := blk_frozen BK200.out 5
    have hfz8_6 := blk_frozen BK200.out 6
    go_wp2
    go_ret
    exact ⟨rfl, by repeat first | exact gB HB | refine below_set ?_ GE200.out⟩
mutual
def triglyphref10_Deep.l0 : Nat → Int → Int → Int → Int → ByteArray → List Int → List (S57) → List (S28) → Int → Option (Int)
 | 0, _, _, _, _, _, _, _, _, _ => none
 | k + 1, x3, x4, x204000, x204001, x204002, x204003, x204004, x204005, x204006 => if x4 < (x204005.length : Int) then (if 0 ≤ x4 then ((triglyphref10_Deep.f k ((rd_T28 x204005 x4).f0) ((rd_T28 x204005 x4).f1) ((rd_T28 x204005 x4).f2) ((rd_T28 x204005 x4).f3.f0) ((rd_T28 x204005 x4).f3.f1) ((rd_T28 x204005 x4).f4) ((rd_T28 x204005 x4).f5)).bind fun t205 => (if (wrap64 (1 + t205)) > x3 then (triglyphref10_Deep.l0 k (wrap64 (1 + t205)) (wrap64 (x4 + 1)) x204000 x204001 x204002 x204003 x204004 x204005 x204006) else (triglyphref10_Deep.l0 k x3 (wrap64 (x4 + 1)) x204000 x204001 x204002 x204003 x204004 x204005 x204006))) else (none)) else (some x3)
def triglyphref10_Deep.f : Nat → Int → Int → ByteArray → List Int → List (S57) → List (S28) → Int → Option (Int)
 | 0, _, _, _, _, _, _, _ => none
 | k + 1, a0_0, a0_1, a0_2, l0_3, l0_4, l0_5, a0_6 => triglyphref10_Deep.l0 k 0 0 a0_0 a0_1 a0_2 l0_3 l0_4 l0_5 a0_6
end
theorem triglyphref10_Deep.mono_l : ∀ k, (∀ y0 y1 y2 y3 y4 y5 y6, LeO (triglyphref10_Deep.f k y0 y1 y2 y3 y4 y5 y6) (triglyphref10_Deep.f (k + 1) y0 y1 y2 y3 y4 y5 y6)) ∧ (∀ y0 y1 y2 y3 y4 y5 y6 y7 y8, LeO (triglyphref10_Deep.l0 k y0 y1 y2 y3 y4 y5 y6 y7 y8) (triglyphref10_Deep.l0 (k + 1) y0 y1 y2 y3 y4 y5 y6 y7 y8))
 | 0 => ⟨fun _ _ _ _ _ _ _ r h => by simp [triglyphref10_Deep.f] at h, fun _ _ _ _ _ _ _ _ _ r h => by simp [triglyphref10_Deep.l0] at h⟩
 | k + 1 => by
  obtain ⟨ih0, ih1⟩ := triglyphref10_Deep.mono_l k
  refine ⟨?_, ?_⟩
  ·intro y0 y1 y2 y3 y4 y5 y6
   unfold triglyphref10_Deep.f
   repeat' first
   | (with_reducible exact ih0 _ _ _ _ _ _ _)
   | (with_reducible exact ih1 _ _ _ _ _ _ _ _ _)
   | (with_reducible exact LeO.refl _)
   | (with_reducible exact LeO.none _)
   | (with_reducible refine LeO.ite ?_ ?_)
   | (with_reducible refine LeO.bind ?_ (fun _ => ?_))





  ·intro y0 y1 y2 y3 y4 y5 y6 y7 y8
   unfold triglyphref10_Deep.l0
   repeat' first
   | (with_reducible exact ih0 _ _ _ _ _ _ _)
   | (with_reducible exact ih1 _ _ _ _ _ _ _ _ _)
   | (with_reducible exact LeO.refl _)
   | (with_reducible exact LeO.none _)
   | (with_reducible refine LeO.ite ?_ ?_)
   | (with_reducible refine LeO.bind ?_ (fun _ => ?_))
theorem triglyphref10_Deep.mono : ∀ a0 a1 a2 a3 a4 a5 a6 k, LeO (triglyphref10_Deep.f k a0 a1 a2 a3 a4 a5 a6) (triglyphref10_Deep.f (k + 1) a0 a1 a2 a3 a4 a5 a6) := by
 intro a0 a1 a2 a3 a4 a5 a6 k
 obtain ⟨ih0, ih1⟩ := triglyphref10_Deep.mono_l k
 exact ih0 a0 a1 a2 a3 a4 a5 a6
set_option maxHeartbeats 8000000 in
set_option maxRecDepth 100000 in
theorem triglyphref10_Deep.calls (k : Nat) : ∀ (a0_0 : Int) (a0_1 : Int) (a0_2 : ByteArray) (A0_3 : Option Addr) (c0_3 : Nat) (l0_3 : List Int) (A0_4 : Option Addr) (c0_4 : Nat) (l0_4 : List (S57)) (A0_5 : Option Addr) (c0_5 : Nat) (l0_5 : List (S28)) (a0_6 : Int) (r : Int) (w : World) (hr0_3 : Kd.C (Kd.int .i64) w A0_3 l0_3.length l0_3) (hc0_3 : l0_3.length ≤ c0_3) (hr0_4 : Kd.C k57 w A0_4 l0_4.length l0_4) (hc0_4 : l0_4.length ≤ c0_4) (hr0_5 : Kd.C k28 w A0_5 l0_5.length l0_5) (hc0_5 : l0_5.length ≤ c0_5) (h : triglyphref10_Deep.f k a0_0 a0_1 a0_2 l0_3 l0_4 l0_5 a0_6 = some r),
  Calls Try.prog 25 #[.agg #[.int .i64 a0_0, .int .i64 a0_1, .string a0_2, .slice A0_3 l0_3.length c0_3, .slice A0_4 l0_4.length c0_4, .slice A0_5 l0_5.length c0_5, .int .i64 a0_6]] w fun e w' => e = .returned (.int .i64 r) ∧ Below w.heap.size w w' := by
 induction k using Nat.strongRecOn with
 | _ k ih =>
 intro a0_0 a0_1 a0_2 A0_3 c0_3 l0_3 A0_4 c0_4 l0_4 A0_5 c0_5 l0_5 a0_6 r w hr0_3 hc0_3 hr0_4 hc0_4 hr0_5 hc0_5 h
 cases k with
 | zero => exact absurd h (by simp [triglyphref10_Deep.f])
 | succ k =>
 simp only [triglyphref10_Deep.f] at h
 have hu28 := Try.underlying28
 have HR0_3 := gA hr0_3
 have HC0_3 := gA hc0_3
 clear hr0_3 hc0_3
 have HR0_4 := gA hr0_4
 have HC0_4 := gA hc0_4
 clear hr0_4 hc0_4
 have HR0_5 := gA hr0_5
 have HC0_5 := gA hc0_5
 clear hr0_5 hc0_5
 have HB := gA (Below.refl w.heap.size w)
 have H : (triglyphref10_Deep.l0 k 0 0 a0_0 a0_1 a0_2 l0_3 l0_4 l0_5 a0_6) = some r := h
 clear h
 have H' := gA H
 clear H
 go_enter Try.func25, Try.ntmps25
 go_wp2_with (first | ((with_reducible refine gate_dst (N := 1) rfl ?_); refine box_event ?hg (N := 1) ?hd (cs := #[.int .i64 a0_0, .int .i64 a0_1, .string a0_2, .slice A0_3 l0_3.length c0_3, .slice A0_4 l0_4.length c0_4, .slice A0_5 l0_5.length c0_5, .int .i64 a0_6]) (t := 28) ?hr ?_; (case hd => rfl); (case hg => rfl); (case hr => first | (go_simp; done) | (go_simp; rfl)); intro gb203 hg w2 hbox hb; have BK203 := gA (hbox); have GW203 := gA ((by rw [hg]; exact (below_size (gB HB)) : w.heap.size ≤ gb203)); have GE203 := gA ((by rw [hg]; exact (below_size (gB HB)) : w.heap.size ≤ gb203)); replace HB := gA (below_step (gB HB) hb); clear hb hbox hg))
 go_loopg [3, 4] k (fun kq v3 v4 w' => ∃ (x3_1 : Int) (x4_1 : Int), v3 = .int .i64 x3_1 ∧ v4 = .int .i64 x4_1 ∧ Aside0 (triglyphref10_Deep.l0 kq x3_1 x4_1 a0_0 a0_1 a0_2 l0_3 l0_4 l0_5 a0_6 = some r) ∧ Aside0 (kq ≤ k) ∧ Aside0 (w'.heap[gb203]? = some (.cells #[.int .i64 a0_0, .int .i64 a0_1, .string a0_2, (.slice A0_3 l0_3.length c0_3), (.slice A0_4 l0_4.length c0_4), (.slice A0_5 l0_5.length c0_5), .int .i64 a0_6] 28 (0, 0))) ∧ Aside0 (Below w.heap.size w w'))
 case atStart => exact ⟨(0), (0), (rfl), (rfl), H', ⟨Nat.le_refl _⟩, ⟨gK BK203⟩, ⟨by repeat first | exact gB HB | refine below_set ?_ GE203.out⟩⟩
 case round =>
  clear H'
  try clear c2
  try clear p2
  obtain ⟨x3_1, x4_1, rfl, rfl, HA, HK1, BK203, HB⟩ := hrel
  cases gk with
  | zero => exact absurd HA.out (by simp [triglyphref10_Deep.l0])
  | succ k1 =>
   have H := HA.out; clear HA
   simp only [triglyphref10_Deep.l0] at H
   by_cases c3 : x4_1 < (l0_5.length : Int)
   ·rw [if_pos c3] at H
    have c3b0 := decide_eq_true c3
    clear c3
    obtain ⟨c4, H⟩ := iS H
    have c4b0 := decide_eq_true c4
    clear c4
    replace H := Option.bind_eq_some_iff.mp H
    obtain ⟨t205, A50, H⟩ := H
    replace H : (if (wrap64 (1 + t205)) > x3_1 then (triglyphref10_Deep.l0 k1 (wrap64 (1 + t205)) (wrap64 (x4_1 + 1)) a0_0 a0_1 a0_2 l0_3 l0_4 l0_5 a0_6) else (triglyphref10_Deep.l0 k1 x3_1 (wrap64 (x4_1 + 1)) a0_0 a0_1 a0_2 l0_3 l0_4 l0_5 a0_6)) = some r := H
    have A5 := gA A50
    clear A50
    by_cases c6 : (wrap64 (1 + t205)) > x3_1
    ·rw [if_pos c6] at H
     have c6b0 : decide (x3_1 < (wrap64 (1 + t205))) = true := decide_eq_true c6
     clear c6
     have H' := gA H
     clear H
     have hcz7_0 := gz BK203 0 rfl
     have hcz7_1 := gz BK203 1 rfl
     have hcz7_2 := gz BK203 2 rfl
     have hcz7_3 := gz BK203 3 rfl
     have hcz7_4 := gz BK203 4 rfl
     have hcz7_5 := gz BK203 5 rfl
     have hcz7_6 := gz BK203 6 rfl
     have hfz7_0 := blk_frozen BK203.out 0
     have hfz7_1 := blk_frozen BK203.out 1
     have hfz7_2 := blk_frozen BK203.out 2
     have hfz7_3 := blk_frozen BK203.out 3
     have hfz7_4 := blk_frozen BK203.out 4
     have hfz7_5 := blk_frozen BK203.out 5
     have hfz7_6 := blk_frozen BK203.out 6
     have p204 : 0 ≤ (x4_1 : Int) := of_decide_eq_true (by assumption)
     have q204 : x4_1 < (l0_5.length : Int) := of_decide_eq_true (by assumption)
     obtain ⟨ad204, A204_3, c204_3, A204_4, c204_4, A204_5, c204_5, e204, hx204_0, hx204_1, hx204_2, hx204_3, hx204_4, hx204_5, hx204_6, hl204_3, hi204_3, hl204_4, hi204_4, hl204_5, hi204_5⟩ := at_T28 HR0_5.out x4_1 p204 q204
     cases e204
     replace hx204_0 := (HB.out.cell (World.block_lt_of_cell? w _ hx204_0)).trans hx204_0
     replace hx204_1 := (HB.out.cell (World.block_lt_of_cell? w _ hx204_1)).trans hx204_1
     replace hx204_2 := (HB.out.cell (World.block_lt_of_cell? w _ hx204_2)).trans hx204_2
     replace hx204_3 := (HB.out.cell (World.block_lt_of_cell? w _ hx204_3)).trans hx204_3
     replace hx204_4 := (HB.out.cell (World.block_lt_of_cell? w _ hx204_4)).trans hx204_4
     replace hx204_5 := (HB.out.cell (World.block_lt_of_cell? w _ hx204_5)).trans hx204_5
     replace hx204_6 := (HB.out.cell (World.block_lt_of_cell? w _ hx204_6)).trans hx204_6
     have HR204_3 := gA hi204_3
     have HC204_3 := gA hl204_3
     clear hi204_3 hl204_3
     have HR204_4 := gA hi204_4
     have HC204_4 := gA hl204_4
     clear hi204_4 hl204_4
     have HR204_5 := gA hi204_5
     have HC204_5 := gA hl204_5
     clear hi204_5 hl204_5
     replace p204 := eq_true p204
     replace q204 := eq_true q204
     go_wp2_with (first | ((with_reducible refine gate_callee (f := 25) rfl ?_); refine goesL_ (some 18) rfl rfl Try.func25 (by kernel_rfl) rfl #[.agg #[.int .i64 ((rd_T28 l0_5 x4_1).f0), .int .i64 ((rd_T28 l0_5 x4_1).f1), .string ((rd_T28 l0_5 x4_1).f2), .slice A204_3 ((rd_T28 l0_5 x4_1).f3.f0).length c204_3, .slice A204_4 ((rd_T28 l0_5 x4_1).f3.f1).length c204_4, .slice A204_5 ((rd_T28 l0_5 x4_1).f4).length c204_5, .int .i64 ((rd_T28 l0_5 x4_1).f5)]] rfl (by (try simp only [List.map_toArray, List.map_cons, List.map_nil]); first | done | rfl | (simp only [List.length_drop, List.length_take]; rfl)) ?_; (with_reducible refine (ih k1 (by have := HK1.out; omega) ((rd_T28 l0_5 x4_1).f0) ((rd_T28 l0_5 x4_1).f1) ((rd_T28 l0_5 x4_1).f2) _ _ ((rd_T28 l0_5 x4_1).f3.f0) _ _ ((rd_T28 l0_5 x4_1).f3.f1) _ _ ((rd_T28 l0_5 x4_1).f4) ((rd_T28 l0_5 x4_1).f5) t205 _ ?side1 ?side2 ?side3 ?side4 ?side5 ?side6 A5.out).mono ?_); (case side1 => exact gC HR204_3 HB); (case side2 => exact HC204_3.out); (case side3 => exact gC HR204_4 HB); (case side4 => exact HC204_4.out); (case side5 => exact gC HR204_5 HB); (case side6 => exact HC204_5.out); rintro e w8 ⟨rfl, hb⟩; refine ⟨_, rfl, ?_⟩; replace BK203 := gA (blk_below (gK BK203) hb); replace HB := gA (below_step (gB HB) hb); (try clear hb)))
     go_roundg k1
     case measure => have := HK1.out; omega
     case rel => exact ⟨(wrap64 (1 + t205)), (wrap64 (x4_1 + 1)), (rfl), (rfl), H', ⟨by have := HK1.out; omega⟩, ⟨gK BK203⟩, ⟨by repeat first | exact gB HB | refine below_set ?_ GE203.out⟩⟩
    ·rw [if_neg c6] at H
     have c6b0 : decide (x3_1 < (wrap64 (1 + t205))) = false := decide_eq_false c6
     clear c6
     have H' := gA H
     clear H
     have hcz9_0 := gz BK203 0 rfl
     have hcz9_1 := gz BK203 1 rfl
     have hcz9_2 := gz BK203 2 rfl
     have hcz9_3 := gz BK203 3 rfl
     have hcz9_4 := gz BK203 4 rfl
     have hcz9_5 := gz BK203 5 rfl
     have hcz9_6 := gz BK203 6 rfl
     have hfz9_0 := blk_frozen BK203.out 0
     have hfz9_1 := blk_frozen BK203.out 1
     have hfz9_2 := blk_frozen BK203.out 2
     have hfz9_3 := blk_frozen BK203.out 3
     have hfz9_4 := blk_frozen BK203.out 4
     have hfz9_5 := blk_frozen BK203.out 5
     have hfz9_6 := blk_frozen BK203.out 6
     have p204 : 0 ≤ (x4_1 : Int) := of_decide_eq_true (by assumption)
     have q204 : x4_1 < (l0_5.length : Int) := of_decide_eq_true (by assumption)
     obtain ⟨ad204, A204_3, c204_3, A204_4, c204_4, A204_5, c204_5, e204, hx204_0, hx204_1, hx204_2, hx204_3, hx204_4, hx204_5, hx204_6, hl204_3, hi204_3, hl204_4, hi204_4, hl204_5, hi204_5⟩ := at_T28 HR0_5.out x4_1 p204 q204
     cases e204
     replace hx204_0 := (HB.out.cell (World.block_lt_of_cell? w _ hx204_0)).trans hx204_0
     replace hx204_1 := (HB.out.cell (World.block_lt_of_cell? w _ hx204_1)).trans hx204_1
     replace hx204_2 := (HB.out.cell (World.block_lt_of_cell? w _ hx204_2)).trans hx204_2
     replace hx204_3 := (HB.out.cell (World.block_lt_of_cell? w _ hx204_3)).trans hx204_3
     replace hx204_4 := (HB.out.cell (World.block_lt_of_cell? w _ hx204_4)).trans hx204_4
     replace hx204_5 := (HB.out.cell (World.block_lt_of_cell? w _ hx204_5)).trans hx204_5
     replace hx204_6 := (HB.out.cell (World.block_lt_of_cell? w _ hx204_6)).trans hx204_6
     have HR204_3 := gA hi204_3
     have HC204_3 := gA hl204_3
     clear hi204_3 hl204_3
     have HR204_4 := gA hi204_4
     have HC204_4 := gA hl204_4
     clear hi204_4 hl204_4
     have HR204_5 := gA hi204_5
     have HC204_5 := gA hl204_5
     clear hi204_5 hl204_5
     replace p204 := eq_true p204
     replace q204 := eq_true q204
     go_wp2_with (first | ((with_reducible refine gate_callee (f := 25) rfl ?_); refine goesL_ (some 18) rfl rfl Try.func25 (by kernel_rfl) rfl #[.agg #[.int .i64 ((rd_T28 l0_5 x4_1).f0), .int .i64 ((rd_T28 l0_5 x4_1).f1), .string ((rd_T28 l0_5 x4_1).f2), .slice A204_3 ((rd_T28 l0_5 x4_1).f3.f0).length c204_3, .slice A204_4 ((rd_T28 l0_5 x4_1).f3.f1).length c204_4, .slice A204_5 ((rd_T28 l0_5 x4_1).f4).length c204_5, .int .i64 ((rd_T28 l0_5 x4_1).f5)]] rfl (by (try simp only [List.map_toArray, List.map_cons, List.map_nil]); first | done | rfl | (simp only [List.length_drop, List.length_take]; rfl)) ?_; (with_reducible refine (ih k1 (by have := HK1.out; omega) ((rd_T28 l0_5 x4_1).f0) ((rd_T28 l0_5 x4_1).f1) ((rd_T28 l0_5 x4_1).f2) _ _ ((rd_T28 l0_5 x4_1).f3.f0) _ _ ((rd_T28 l0_5 x4_1).f3.f1) _ _ ((rd_T28 l0_5 x4_1).f4) ((rd_T28 l0_5 x4_1).f5) t205 _ ?side1 ?side2 ?side3 ?side4 ?side5 ?side6 A5.out).mono ?_); (case side1 => exact gC HR204_3 HB); (case side2 => exact HC204_3.out); (case side3 => exact gC HR204_4 HB); (case side4 => exact HC204_4.out); (case side5 => exact gC HR204_5 HB); (case side6 => exact HC204_5.out); rintro e w10 ⟨rfl, hb⟩; refine ⟨_, rfl, ?_⟩; replace BK203 := gA (blk_below (gK BK203) hb); replace HB := gA (below_step (gB HB) hb); (try clear hb)))
     go_roundg k1
     case measure => have := HK1.out; omega
     case rel => exact ⟨(x3_1), (wrap64 (x4_1 + 1)), (rfl), (rfl), H', ⟨by have := HK1.out; omega⟩, ⟨gK BK203⟩, ⟨by repeat first | exact gB HB | refine below_set ?_ GE203.out⟩⟩
   ·rw [if_neg c3] at H
    have c3b0 := decide_eq_false c3
    clear c3
    obtain rfl := Option.some.inj H
    have hcz11_0 := gz BK203 0 rfl
    have hcz11_1 := gz BK203 1 rfl
    have hcz11_2 := gz BK203 2 rfl
    have hcz11_3 := gz BK203 3 rfl
    have hcz11_4 := gz BK203 4 rfl
    have hcz11_5 := gz BK203 5 rfl
    have hcz11_6 := gz BK203 6 rfl
    have hfz11_0 := blk_frozen BK203.out 0
    have hfz11_1 := blk_frozen BK203.out 1
    have hfz11_2 := blk_frozen BK203.out 2
    have hfz11_3 := blk_frozen BK203.out 3
    have hfz11_4 := blk_frozen BK203.out 4
    have hfz11_5 := blk_frozen BK203.out 5
    have hfz11_6 := blk_frozen BK203.out 6
    go_wp2
    go_ret
    exact ⟨rfl, by repeat first | exact gB HB | refine below_set ?_ GE203.out⟩
mutual
def triglyphref03_Size.l0 : Nat → List Int → Bool → Int → Option (Int × Int)
 | 0, _, _, _ => none
 | k + 1, x0, x4, x5 => if x5 < (x0.length : Int) then (if 0 ≤ x5 then (if (rd x0 x5) < 0 then (some (0, 1)) else (if (rd x0 x5) = 0 then (triglyphref03_Size.l0 k x0 true (wrap64 (x5 + 1))) else (triglyphref03_Size.l0 k x0 x4 (wrap64 (x5 + 1))))) else (none)) else (if x4 = true then (some (0, 0)) else (triglyphref03_Size.l1 k x0 1 0))
def triglyphref03_Size.l1 : Nat → List Int → Int → Int → Option (Int × Int)
 | 0, _, _, _ => none
 | k + 1, x0, x6, x7 => if x7 < (x0.length : Int) then (if 0 ≤ x7 then (if (rd x0 x7) > 16384 then (some (0, 12)) else (if (wrap64 (x6 * (rd x0 x7))) > 16384 then (some (0, 12)) else (triglyphref03_Size.l1 k x0 (wrap64 (x6 * (rd x0 x7))) (wrap64 (x7 + 1))))) else (none)) else (some (x6, 0))
end
def triglyphref03_Size.f (k : Nat) (l0 : List Int) : Option (Int × Int) := if (l0.length : Int) > 8 then (some (0, 6)) else (triglyphref03_Size.l0 k l0 false 0)
theorem triglyphref03_Size.mono_l : ∀ k, (∀ y0 y1 y2, LeO (triglyphref03_Size.l0 k y0 y1 y2) (triglyphref03_Size.l0 (k + 1) y0 y1 y2)) ∧ (∀ y0 y1 y2, LeO (triglyphref03_Size.l1 k y0 y1 y2) (triglyphref03_Size.l1 (k + 1) y0 y1 y2))
 | 0 => ⟨fun _ _ _ r h => by simp [triglyphref03_Size.l0] at h, fun _ _ _ r h => by simp [triglyphref03_Size.l1] at h⟩
 | k + 1 => by
  obtain ⟨ih0, ih1⟩ := triglyphref03_Size.mono_l k
  refine ⟨?_, ?_⟩
  ·intro y0 y1 y2
   unfold triglyphref03_Size.l0
   repeat' first
   | (with_reducible exact ih0 _ _ _)
   | (with_reducible exact ih1 _ _ _)
   | (with_reducible exact LeO.refl _)
   | (with_reducible exact LeO.none _)
   | (with_reducible refine LeO.ite ?_ ?_)
   | (with_reducible refine LeO.bind ?_ (fun _ => ?_))





  ·intro y0 y1 y2
   unfold triglyphref03_Size.l1
   repeat' first
   | (with_reducible exact ih0 _ _ _)
   | (with_reducible exact ih1 _ _ _)
   | (with_reducible exact LeO.refl _)
   | (with_reducible exact LeO.none _)
   | (with_reducible refine LeO.ite ?_ ?_)
   | (with_reducible refine LeO.bind ?_ (fun _ => ?_))
theorem triglyphref03_Size.mono : ∀ a0 k, LeO (triglyphref03_Size.f k a0) (triglyphref03_Size.f (k + 1) a0) := by
 intro a0 k
 obtain ⟨ih0, ih1⟩ := triglyphref03_Size.mono_l k
 unfold triglyphref03_Size.f
 repeat' first
   | (with_reducible exact ih0 _ _ _)
   | (with_reducible exact ih1 _ _ _)
   | (with_reducible exact LeO.refl _)
   | (with_reducible exact LeO.none _)
   | (with_reducible refine LeO.ite ?_ ?_)
   | (with_reducible refine LeO.bind ?_ (fun _ => ?_))
set_option maxHeartbeats 8000000 in
set_option maxRecDepth 100000 in
theorem triglyphref03_Size.calls (k : Nat) (A0 : Option Addr) (c0 : Nat) (l0 : List Int) (r1 : Int) (r2 : Int) (w : World) (hr0 : Kd.C (Kd.int .i64) w A0 l0.length l0) (hc0 : l0.length ≤ c0) (h : triglyphref03_Size.f k l0 = some (r1, r2)) :
  Calls Try.prog 65 #[.slice A0 l0.length c0] w fun e w' => e = .returned (.tuple #[.int .i64 r1, .int .i64 r2]) ∧ Drawn0 w w' := by
 have HR0 := gA hr0
 have HC0 := gA hc0
 clear hr0 hc0
 have H : (if (l0.length : Int) > 8 then (some (0, 6)) else (triglyphref03_Size.l0 k l0 false 0)) = some (r1, r2) := h
 clear h
 by_cases c2 : (l0.length : Int) > 8
 ·rw [if_pos c2] at H
  have c2b0 : decide (8 < (l0.length : Int)) = true := decide_eq_true c2
  have c2b1 : decide (8 < l0.length) = true := decide_eq_true (by omega)
  clear c2
  simp only [Option.some.injEq, Prod.mk.injEq] at H
  obtain ⟨rfl, rfl⟩ := H
  go_enter Try.func65, Try.ntmps65
  go_wp2
  go_ret2
  exact ⟨rfl, by repeat (first | exact Drawn0.refl _ | apply Drawn0.step)⟩
 ·rw [if_neg c2] at H
  have c2b0 : decide (8 < (l0.length : Int)) = false := decide_eq_false c2
  have c2b1 : decide (8 < l0.length) = false := decide_eq_false (by omega)
  clear c2
  have H' := gA H
  clear H
  go_enter Try.func65, Try.ntmps65
  go_wp2
  go_loopg [4, 5] k (fun kq v4 v5 w' => ∃ (x4_1 : Bool) (x5_1 : Int), v4 = .bool x4_1 ∧ v5 = .int .i64 x5_1 ∧ Aside0 (triglyphref03_Size.l0 kq l0 x4_1 x5_1 = some (r1, r2)) ∧ Aside0 (kq ≤ k) ∧ Drawn0 w w')
  case atStart => exact ⟨(false), (0), (rfl), (rfl), H', ⟨Nat.le_refl _⟩, by repeat (first | exact Drawn0.refl _ | apply Drawn0.step)⟩
  case round =>
   clear H'
   try clear c2
   try clear c2b0
   try clear c2b1
   try clear p2
   obtain ⟨x4_1, x5_1, rfl, rfl, HA, HK1, ⟨m1, rfl⟩⟩ := hrel
   cases gk with
   | zero => exact absurd HA.out (by simp [triglyphref03_Size.l0])
   | succ k1 =>
    have H := HA.out; clear HA
    simp only [triglyphref03_Size.l0] at H
    by_cases c3 : x5_1 < (l0.length : Int)
    ·rw [if_pos c3] at H
     have c3b0 := decide_eq_true c3
     clear c3
     obtain ⟨c4, H⟩ := iS H
     have c4b0 := decide_eq_true c4
     clear c4
     by_cases c5 : (rd l0 x5_1) < 0
     ·rw [if_pos c5] at H
      have c5b0 := decide_eq_true c5
      clear c5
      simp only [Option.some.injEq, Prod.mk.injEq] at H
      obtain ⟨rfl, rfl⟩ := H
      have p206 : 0 ≤ (x5_1 : Int) := of_decide_eq_true (by assumption)
      have q206 : x5_1 < (l0.length : Int) := of_decide_eq_true (by assumption)
      obtain ⟨ad206, e206, hx206_0⟩ := Kd.at_int HR0.out x5_1 p206 q206
      cases e206
      replace p206 := eq_true p206
      replace q206 := eq_true q206
      go_wp2
      go_ret2
      exact ⟨rfl, by repeat (first | exact Drawn0.refl _ | apply Drawn0.step)⟩
     ·rw [if_neg c5] at H
      have c5b0 := decide_eq_false c5
      clear c5
      by_cases c6 : (rd l0 x5_1) = 0
      ·rw [if_pos c6] at H
       have c6b0 : ((rd l0 x5_1) == 0) = true := beq_iff_eq.mpr c6
       have c6b1 : ((rd l0 x5_1) != 0) = false := bne_eq_false_iff_eq.mpr c6
       clear c6
       have H' := gA H
       clear H
       have p206 : 0 ≤ (x5_1 : Int) := of_decide_eq_true (by assumption)
       have q206 : x5_1 < (l0.length : Int) := of_decide_eq_true (by assumption)
       obtain ⟨ad206, e206, hx206_0⟩ := Kd.at_int HR0.out x5_1 p206 q206
       cases e206
       replace p206 := eq_true p206
       replace q206 := eq_true q206
       have p207 : 0 ≤ (x5_1 : Int) := of_decide_eq_true (by assumption)
       have q207 : x5_1 < (l0.length : Int) := of_decide_eq_true (by assumption)
       obtain ⟨ad207, e207, hx207_0⟩ := Kd.at_int HR0.out x5_1 p207 q207
       obtain rfl : ad206 = ad207 := (by injection e207)
       replace p207 := eq_true p207
       replace q207 := eq_true q207
       go_wp2
       go_roundg k1
       case measure => have := HK1.out; omega
       case rel => exact ⟨(true), (wrap64 (x5_1 + 1)), (rfl), (rfl), H', ⟨by have := HK1.out; omega⟩, by repeat (first | exact Drawn0.refl _ | apply Drawn0.step)⟩
      ·rw [if_neg c6] at H
       have c6b0 : ((rd l0 x5_1) == 0) = false := beq_eq_false_iff_ne.mpr c6
       have c6b1 : ((rd l0 x5_1) != 0) = true := bne_iff_ne.mpr c6
       have H' := gA H
       clear H
       have p206 : 0 ≤ (x5_1 : Int) := of_decide_eq_true (by assumption)
       have q206 : x5_1 < (l0.length : Int) := of_decide_eq_true (by assumption)
       obtain ⟨ad206, e206, hx206_0⟩ := Kd.at_int HR0.out x5_1 p206 q206
       cases e206
       replace p206 := eq_true p206
       replace q206 := eq_true q206
       have p207 : 0 ≤ (x5_1 : Int) := of_decide_eq_true (by assumption)
       have q207 : x5_1 < (l0.length : Int) := of_decide_eq_true (by assumption)
       obtain ⟨ad207, e207, hx207_0⟩ := Kd.at_int HR0.out x5_1 p207 q207
       obtain rfl : ad206 = ad207 := (by injection e207)
       replace p207 := eq_true p207
       replace q207 := eq_true q207
       go_wp2
       go_roundg k1
       case measure => have := HK1.out; omega
       case rel => exact ⟨(x4_1), (wrap64 (x5_1 + 1)), (rfl), (rfl), H', ⟨by have := HK1.out; omega⟩, by repeat (first | exact Drawn0.refl _ | apply Drawn0.step)⟩
    ·rw [if_neg c3] at H
     have c3b0 := decide_eq_false c3
     clear c3
     by_cases c7 : x4_1 = true
     ·subst c7
      have H1 : (some (0, 0)) = some (r1, r2) := by rw [if_pos rfl] at H; exact H
      clear H; have H := H1; clear H1
      simp only [Option.some.injEq, Prod.mk.injEq] at H
      obtain ⟨rfl, rfl⟩ := H
      go_wp2
      go_ret2
      exact ⟨rfl, by repeat (first | exact Drawn0.refl _ | apply Drawn0.step)⟩
     ·replace c7 := Bool.eq_false_iff.mpr c7
      subst c7
      have H1 : (triglyphref03_Size.l1 k1 l0 1 0) = some (r1, r2) := by rw [if_neg (show ¬ (false = true) by decide)] at H; exact H
      clear H; have H := H1; clear H1
      have H' := gA H
      clear H
      go_wp2
      go_loopg [6, 7] k1 (fun kq v6 v7 w' => ∃ (x6_2 : Int) (x7_2 : Int), v6 = .int .i64 x6_2 ∧ v7 = .int .i64 x7_2 ∧ Aside0 (triglyphref03_Size.l1 kq l0 x6_2 x7_2 = some (r1, r2)) ∧ Aside0 (kq ≤ k1) ∧ Drawn0 w w')
      case atStart => exact ⟨(1), (0), (rfl), (rfl), H', ⟨Nat.le_refl _⟩, by repeat (first | exact Drawn0.refl _ | apply Drawn0.step)⟩
      case round =>
       clear H'
       try clear c2
       try clear c2b0
       try clear c2b1
       try clear p2
       try clear q2
       try clear hx2
       try clear c3
       try clear c3b0
       try clear c4
       try clear c4b0
       try clear c5
       try clear c5b0
       try clear c6
       try clear c6b0
       try clear c6b1
       try clear p6
       try clear c7
       try clear hx206_0
       try clear hx207_0
       try clear p2
       try clear p206
       try clear p207
       try clear q206
       try clear q207
       obtain ⟨x6_2, x7_2, rfl, rfl, HA, HK2, ⟨m2, rfl⟩⟩ := hrel
       cases gk with
       | zero => exact absurd HA.out (by simp [triglyphref03_Size.l1])
       | succ k2 =>
        have H := HA.out; clear HA
        simp only [triglyphref03_Size.l1] at H
        by_cases c8 : x7_2 < (l0.length : Int)
        ·rw [if_pos c8] at H
         have c8b0 := decide_eq_true c8
         clear c8
         obtain ⟨c9, H⟩ := iS H
         have c9b0 := decide_eq_true c9
         clear c9
         by_cases c10 : (rd l0 x7_2) > 16384
         ·rw [if_pos c10] at H
          have c10b0 : decide (16384 < (rd l0 x7_2)) = true := decide_eq_true c10
          clear c10
          simp only [Option.some.injEq, Prod.mk.injEq] at H
          obtain ⟨rfl, rfl⟩ := H
          have p208 : 0 ≤ (x7_2 : Int) := of_decide_eq_true (by assumption)
          have q208 : x7_2 < (l0.length : Int) := of_decide_eq_true (by assumption)
          obtain ⟨ad208, e208, hx208_0⟩ := Kd.at_int HR0.out x7_2 p208 q208
          cases e208
          replace p208 := eq_true p208
          replace q208 := eq_true q208
          go_wp2
          go_ret2
          exact ⟨rfl, by repeat (first | exact Drawn0.refl _ | apply Drawn0.step)⟩
         ·rw [if_neg c10] at H
          have c10b0 : decide (16384 < (rd l0 x7_2)) = false := decide_eq_false c10
          clear c10
          by_cases c11 : (wrap64 (x6_2 * (rd l0 x7_2))) > 16384
          ·rw [if_pos c11] at H
           have c11b0 : decide (16384 < (wrap64 (x6_2 * (rd l0 x7_2)))) = true := decide_eq_true c11
           clear c11
           simp only [Option.some.injEq, Prod.mk.injEq] at H
           obtain ⟨rfl, rfl⟩ := H
           have p208 : 0 ≤ (x7_2 : Int) := of_decide_eq_true (by assumption)
           have q208 : x7_2 < (l0.length : Int) := of_decide_eq_true (by assumption)
           obtain ⟨ad208, e208, hx208_0⟩ := Kd.at_int HR0.out x7_2 p208 q208
           cases e208
           replace p208 := eq_true p208
           replace q208 := eq_true q208
           have p209 : 0 ≤ (x7_2 : Int) := of_decide_eq_true (by assumption)
           have q209 : x7_2 < (l0.length : Int) := of_decide_eq_true (by assumption)
           obtain ⟨ad209, e209, hx209_0⟩ := Kd.at_int HR0.out x7_2 p209 q209
           obtain rfl : ad208 = ad209 := (by injection e209)
           replace p209 := eq_true p209
           replace q209 := eq_true q209
           go_wp2
           go_ret2
           exact ⟨rfl, by repeat (first | exact Drawn0.refl _ | apply Drawn0.step)⟩
          ·rw [if_neg c11] at H
           have c11b0 : decide (16384 < (wrap64 (x6_2 * (rd l0 x7_2)))) = false := decide_eq_false c11
           clear c11
           have H' := gA H
           clear H
           have p208 : 0 ≤ (x7_2 : Int) := of_decide_eq_true (by assumption)
           have q208 : x7_2 < (l0.length : Int) := of_decide_eq_true (by assumption)
           obtain ⟨ad208, e208, hx208_0⟩ := Kd.at_int HR0.out x7_2 p208 q208
           cases e208
           replace p208 := eq_true p208
           replace q208 := eq_true q208
           have p209 : 0 ≤ (x7_2 : Int) := of_decide_eq_true (by assumption)
           have q209 : x7_2 < (l0.length : Int) := of_decide_eq_true (by assumption)
           obtain ⟨ad209, e209, hx209_0⟩ := Kd.at_int HR0.out x7_2 p209 q209
           obtain rfl : ad208 = ad209 := (by injection e209)
           replace p209 := eq_true p209
           replace q209 := eq_true q209
           go_wp2
           go_roundg k2
           case measure => have := HK1.out; have := HK2.out; omega
           case rel => exact ⟨(wrap64 (x6_2 * (rd l0 x7_2))), (wrap64 (x7_2 + 1)), (rfl), (rfl), H', ⟨by have := HK1.out; have := HK2.out; omega⟩, by repeat (first | exact Drawn0.refl _ | apply Drawn0.step)⟩
        ·rw [if_neg c8] at H
         have c8b0 := decide_eq_false c8
         clear c8
         simp only [Option.some.injEq, Prod.mk.injEq] at H
         obtain ⟨rfl, rfl⟩ := H
         go_wp2
         go_ret2
         exact ⟨rfl, by repeat (first | exact Drawn0.refl _ | apply Drawn0.step)⟩
def triglyphref02_Good.f (a0 : Int) : Option (Bool) := if a0 ≥ 0 then (if a0 < 55296 then (some true) else (if a0 > 57343 then (some (decide (a0 < 1114112))) else (some false))) else (if a0 > 57343 then (some (decide (a0 < 1114112))) else (some false))
set_option maxHeartbeats 8000000 in
set_option maxRecDepth 100000 in
theorem triglyphref02_Good.calls (a0 : Int) (r : Bool) (w : World) (h : triglyphref02_Good.f a0 = some r) :
  Calls Try.prog 69 #[.int .i64 a0] w fun e w' => e = .returned (.bool r) ∧ Drawn0 w w' := by
 have H : (if a0 ≥ 0 then (if a0 < 55296 then (some true) else (if a0 > 57343 then (some (decide (a0 < 1114112))) else (some false))) else (if a0 > 57343 then (some (decide (a0 < 1114112))) else (some false))) = some r := h
 clear h
 by_cases c2 : a0 ≥ 0
 ·rw [if_pos c2] at H
  have c2b0 : decide (0 ≤ a0) = true := decide_eq_true c2
  clear c2
  by_cases c3 : a0 < 55296
  ·rw [if_pos c3] at H
   have c3b0 := decide_eq_true c3
   clear c3
   obtain rfl := Option.some.inj H
   go_enter Try.func69, Try.ntmps69
   go_wp2
   go_ret
   exact ⟨rfl, by repeat (first | exact Drawn0.refl _ | apply Drawn0.step)⟩
  ·rw [if_neg c3] at H
   have c3b0 := decide_eq_false c3
   clear c3
   by_cases c4 : a0 > 57343
   ·rw [if_pos c4] at H
    have c4b0 : decide (57343 < a0) = true := decide_eq_true c4
    clear c4
    obtain rfl := Option.some.inj H
    go_enter Try.func69, Try.ntmps69
    go_wp2
    go_ret
    exact ⟨rfl, by repeat (first | exact Drawn0.refl _ | apply Drawn0.step)⟩
   ·rw [if_neg c4] at H
    have c4b0 : decide (57343 < a0) = false := decide_eq_false c4
    clear c4
    obtain rfl := Option.some.inj H
    go_enter Try.func69, Try.ntmps69
    go_wp2
    go_ret
    exact ⟨rfl, by repeat (first | exact Drawn0.refl _ | apply Drawn0.step)⟩
 ·rw [if_neg c2] at H
  have c2b0 : decide (0 ≤ a0) = false := decide_eq_false c2
  clear c2
  by_cases c5 : a0 > 57343
  ·rw [if_pos c5] at H
   have c5b0 : decide (57343 < a0) = true := decide_eq_true c5
   clear c5
   obtain rfl := Option.some.inj H
   go_enter Try.func69, Try.ntmps69
   go_wp2
   go_ret
   exact ⟨rfl, by repeat (first | exact Drawn0.refl _ | apply Drawn0.step)⟩
  ·rw [if_neg c5] at H
   have c5b0 : decide (57343 < a0) = false := decide_eq_false c5
   clear c5
   obtain rfl := Option.some.inj H
   go_enter Try.func69, Try.ntmps69
   go_wp2
   go_ret
   exact ⟨rfl, by repeat (first | exact Drawn0.refl _ | apply Drawn0.step)⟩
end Go.Proofs.Ytfjkclhkobnakaa.P
