/- Where a cell stands, and which places it has: both packages tell the same. -/
import Derived.Test.YtahgfebdjjfkhaaArr1
import Derived.Test.YtahgfebdjjfkhaaPx13
import Derived.Test.YtahgfebdjjfkhaaPx14
namespace Go.Proofs.Ytahgfebdjjfkhaa.Pure
open Go.RowKit Go.Proofs.Ytahgfebdjjfkhaa.P Go.Proofs.Ytahgfebdjjfkhaa.Nest Go.Proofs.YtahgfebdjjfkhaaW.PrintWords Go.Proofs.YtahgfebdjjfkhaaW.PrintLast Go.Proofs.YtahgfebdjjfkhaaW.PrintMore
set_option linter.unusedVariables false
set_option linter.unusedSimpArgs false
def plc : Int → List Int → List Int → Int × Int
  | n, [], _ => (n, 0)
  | n, _ :: _, [] => (n, 0)
  | n, a :: at', d :: s => if a < 0 then (0, 8) else if a ≥ d then (0, 8) else plc (wrap64 (wrap64 (n * d) + a)) at' s
def placeS (s at' : List Int) : Int × Int := if (sizeS s).2 = 0 then (if at'.length = s.length then plc 0 at' s else (0, 6)) else (0, (sizeS s).2)
theorem rpl_l0 (s : List Int) : ∀ (rest done srest sdone : List Int) (n : Int), s = sdone ++ srest → done.length = sdone.length → rest.length = srest.length → s.length ≤ 8 →
    ∃ K, ∀ k, K ≤ k → triglyphref03_Place.l0 k s (done ++ rest) n (done.length : Int) = some (plc n rest srest)
  | [], done, srest, sdone, n, hs, hd, hr, hl => by
    refine ⟨1, fun k hk => ?_⟩
    obtain ⟨k, rfl, _⟩ := succ_of (K := 0) hk
    simp only [triglyphref03_Place.l0]
    rw [if_neg (by simp), plc]
  | a :: rest, done, [], sdone, n, hs, hd, hr, hl => by cases hr
  | a :: rest, done, d :: srest, sdone, n, hs, hd, hr, hl => by
    have hlen : s.length = done.length + 1 + srest.length := by rw [hs, hd]; simp; omega
    have hr2 : rest.length = srest.length := by simpa using hr
    have hlen2 : ((done ++ a :: rest).length : Int) = done.length + 1 + srest.length := by simp; omega
    have e2 : rd s (done.length : Int) = d := by rw [hs, hd, rd_mid]
    have h2 : done ++ a :: rest = (done ++ [a]) ++ rest := by simp
    rw [plc]
    by_cases ha : a < 0
    · refine ⟨1, fun k hk => ?_⟩
      obtain ⟨k, rfl, _⟩ := succ_of (K := 0) hk
      simp only [triglyphref03_Place.l0]
      rw [if_pos (by omega), if_pos (by omega), rd_mid, if_pos ha, if_pos ha]
    · rw [if_neg ha]
      by_cases had : a ≥ d
      · refine ⟨1, fun k hk => ?_⟩
        obtain ⟨k, rfl, _⟩ := succ_of (K := 0) hk
        simp only [triglyphref03_Place.l0]
        rw [if_pos (by omega), if_pos (by omega), rd_mid, if_neg ha, if_pos (by omega), e2, if_pos had, if_pos had]
      · obtain ⟨K, hK⟩ := rpl_l0 s rest (done ++ [a]) srest (sdone ++ [d]) (wrap64 (wrap64 (n * d) + a)) (by rw [hs]; simp) (by simpa using hd) hr2 hl
        refine ⟨K + 1, fun k hk => ?_⟩
        obtain ⟨k, rfl, hk2⟩ := succ_of hk
        simp only [triglyphref03_Place.l0]
        rw [if_pos (by omega), if_pos (by omega), rd_mid, if_neg ha, if_pos (by omega), e2, if_neg had, if_neg had, wrap_next _ a (by omega), h2]
        exact hK k hk2
theorem rplace_eq (s at' : List Int) : ∃ K, ∀ k, K ≤ k → triglyphref03_Place.f k s at' = some (placeS s at') := by
  obtain ⟨K0, hK0⟩ := rsize_eq s
  unfold placeS
  by_cases h1 : (sizeS s).2 = 0
  · rw [if_pos h1]
    by_cases h2 : at'.length = s.length
    · obtain ⟨K, hK⟩ := rpl_l0 s at' [] s [] 0 rfl rfl h2 (sizeS_len h1)
      refine ⟨K0 + K, fun k hk => ?_⟩
      unfold triglyphref03_Place.f
      rw [hK0 k (by omega)]
      simp only [Option.bind_some]
      rw [if_pos h1, if_pos (by omega), if_pos h2]
      simpa using hK k (by omega)
    · refine ⟨K0, fun k hk => ?_⟩
      unfold triglyphref03_Place.f
      rw [hK0 k (by omega)]
      simp only [Option.bind_some]
      rw [if_pos h1, if_neg (by omega), if_neg h2]
  · refine ⟨K0, fun k hk => ?_⟩
    unfold triglyphref03_Place.f
    rw [hK0 k (by omega)]
    simp only [Option.bind_some]
    rw [if_neg h1, if_neg h1]
def prodS : List Int → Int
  | [] => 1
  | d :: s => d * prodS s
/-- From the last axis to the first: the places, and what is left over. -/
def dg : List Int → Int → List Int × Int
  | [], n => ([], n)
  | d :: s, n => ((dg s n).2 % d :: (dg s n).1, (dg s n).2 / d)
/-- From the first axis to the last. -/
def rf : List Int → Int → List Int
  | [], _ => []
  | d :: s, n => n / prodS s :: rf s (n % prodS s)
theorem prodS_pos : ∀ {s : List Int}, (∀ d ∈ s, 1 ≤ d) → 1 ≤ prodS s
  | [], _ => by simp [prodS]
  | d :: s, h => by
    have h1 := prodS_pos (s := s) (fun x hx => h x (List.mem_cons_of_mem _ hx))
    have h2 := h d List.mem_cons_self
    rw [prodS]
    have := Int.mul_le_mul h2 h1 (by omega) (by omega)
    omega
theorem dg_snoc (d : Int) : ∀ (a : List Int) (n : Int), dg (a ++ [d]) n = ((dg a (n / d)).1 ++ [n % d], (dg a (n / d)).2)
  | [], n => by simp [dg]
  | x :: a, n => by
    rw [List.cons_append, dg, dg_snoc d a n, dg]
    rfl
theorem mod_div (n d P : Int) (hd : 1 ≤ d) (hP : 1 ≤ P) : n % (d * P) / P = n / P % d ∧ n % (d * P) % P = n % P := by
  have h1 := Int.emod_add_mul_ediv n P
  have h2 := Int.emod_add_mul_ediv (n / P) d
  have h3 := Int.emod_nonneg n (show P ≠ 0 by omega)
  have h4 := Int.emod_lt_of_pos n (show 0 < P by omega)
  have h5 := Int.emod_nonneg (n / P) (show d ≠ 0 by omega)
  have h6 := Int.emod_lt_of_pos (n / P) (show 0 < d by omega)
  generalize n / P % d = q2 at *
  generalize n / P / d = q1 at *
  generalize n / P = q at *
  generalize hr : n % P = r at *
  have e : n = (r + P * q2) + (d * P) * q1 := by
    rw [← h1, ← h2, Int.mul_add, ← Int.mul_assoc, Int.mul_comm P d]
    omega
  have hlt : r + P * q2 < d * P := by
    have : P * q2 ≤ P * (d - 1) := Int.mul_le_mul_of_nonneg_left (by omega) (by omega)
    rw [Int.mul_sub, Int.mul_one, Int.mul_comm P d] at this
    omega
  have hge : 0 ≤ r + P * q2 := by have := Int.mul_nonneg (show 0 ≤ P by omega) h5; omega
  have e2 : n % (d * P) = r + P * q2 := by
    rw [e, Int.add_mul_emod_self_left]
    exact Int.emod_eq_of_lt hge hlt
  rw [e2, Int.add_mul_ediv_left _ _ (by omega), Int.add_mul_emod_self_left, Int.ediv_eq_zero_of_lt h3 h4, Int.emod_eq_of_lt h3 h4]
  exact ⟨by omega, rfl⟩
theorem dg_eq : ∀ (s : List Int) (n : Int), (∀ d ∈ s, 1 ≤ d) → 0 ≤ n → dg s n = (rf s (n % prodS s), n / prodS s)
  | [], n, _, _ => by simp [dg, rf, prodS]
  | d :: s, n, h, hn => by
    have hs := fun x hx => h x (List.mem_cons_of_mem _ hx)
    have h2 := h d List.mem_cons_self
    have hP := prodS_pos hs
    obtain ⟨m1, m2⟩ := mod_div n d (prodS s) h2 hP
    rw [dg, dg_eq s n hs hn, prodS, rf, m1, m2, Int.mul_comm d (prodS s), Int.ediv_ediv_of_nonneg (by omega)]
theorem dg_low (s : List Int) (n : Int) (h : ∀ d ∈ s, 1 ≤ d) (h0 : 0 ≤ n) (h1 : n < prodS s) : (dg s n).1 = rf s n := by
  rw [dg_eq s n h h0, Int.emod_eq_of_lt h0 h1]
theorem sizeP_ok : ∀ (s : List Int) (n : Int), 1 ≤ n → n ≤ 16384 → (∀ d ∈ s, 1 ≤ d) → (sizeP n s).2 = 0 → (sizeP n s).1 = n * prodS s
  | [], n, _, _, _, _ => by simp [sizeP, prodS]
  | d :: s, n, h0, h1, h, h2 => by
    rw [sizeP] at h2 ⊢
    split at h2
    · cases h2
    · rename_i hc
      have hd := h d List.mem_cons_self
      have hnd : 1 ≤ n * d := by have := Int.mul_le_mul h0 hd (by omega) (by omega); omega
      rw [if_neg hc, sizeP_ok s (n * d) hnd (by omega) (fun x hx => h x (List.mem_cons_of_mem _ hx)) h2, prodS, Int.mul_assoc]
theorem sizeS_ok {s : List Int} (h : (sizeS s).2 = 0) (hp : 0 < (sizeS s).1) : (∀ d ∈ s, 1 ≤ d) ∧ (sizeS s).1 = prodS s ∧ s.length ≤ 8 := by
  have hl := sizeS_len h
  unfold sizeS at h hp ⊢
  rw [if_neg (by omega)] at h hp ⊢
  split at h
  · cases h
  · rename_i hn
    rw [if_neg hn] at hp ⊢
    split at h
    · rename_i hz
      rw [if_pos hz] at hp
      simp at hp
    · rename_i hz
      rw [if_neg hz]
      have hd : ∀ d ∈ s, 1 ≤ d := by
        intro d hd
        have h1 : ¬ d < 0 := fun hlt => hn (List.any_eq_true.2 ⟨d, hd, by simpa using hlt⟩)
        have h2 : d ≠ 0 := fun he => hz (List.any_eq_true.2 ⟨d, hd, by simpa using he⟩)
        omega
      refine ⟨hd, ?_, hl⟩
      rw [sizeP_ok s 1 (by omega) (by omega) hd h, Int.one_mul]
theorem set_mid (a : List Int) (x y : Int) (b : List Int) : (a ++ x :: b).set a.length y = a ++ y :: b := by simp
theorem rps_l0 (s : List Int) : ∀ (rest done : List Int) (n : Int) (dn : List Int), s = done ++ rest → dn.length = done.length → s.length ≤ 8 → (∀ d ∈ rest, 1 ≤ d) → prodS rest ≤ 16384 → 0 ≤ n → n ≤ 16384 →
    ∃ K, ∀ k, K ≤ k → triglyphref03_Places.l0 k s n (dn ++ List.replicate rest.length 0) (prodS rest) (done.length : Int) = some (dn ++ rf rest n, 0)
  | [], done, n, dn, hs, hdn, hl, hd, hp, h0, h1 => by
    refine ⟨1, fun k hk => ?_⟩
    obtain ⟨k, rfl, _⟩ := succ_of (K := 0) hk
    simp only [triglyphref03_Places.l0]
    rw [if_neg (by rw [hs]; simp), rf]
    simp
  | d :: rest, done, n, dn, hs, hdn, hl, hd, hp, h0, h1 => by
    have h2 := hd d List.mem_cons_self
    have hr := fun x hx => hd x (List.mem_cons_of_mem _ hx)
    have hP := prodS_pos hr
    have hlen : s.length = done.length + 1 + rest.length := by rw [hs]; simp; omega
    have e1 : rd s (done.length : Int) = d := by rw [hs, rd_mid]
    have hle : prodS rest ≤ 16384 := by
      rw [prodS] at hp
      have := Int.mul_le_mul h2 (Int.le_refl (prodS rest)) (by omega) (by omega)
      omega
    have e2 : wrap64 (Int.tdiv (prodS (d :: rest)) d) = prodS rest := by
      rw [prodS, Int.mul_tdiv_cancel_left _ (by omega), wrap_in (by omega) (by omega)]
    have hq0 : 0 ≤ n / prodS rest := Int.ediv_nonneg h0 (by omega)
    have hq1 : n / prodS rest ≤ n := Int.ediv_le_self _ h0
    have hm0 := Int.emod_nonneg n (show prodS rest ≠ 0 by omega)
    have hm1 := Int.emod_lt_of_pos n (show 0 < prodS rest by omega)
    obtain ⟨K, hK⟩ := rps_l0 s rest (done ++ [d]) (n % prodS rest) (dn ++ [n / prodS rest]) (by rw [hs]; simp) (by simpa using hdn) hl hr hle hm0 (by omega)
    refine ⟨K + 1, fun k hk => ?_⟩
    obtain ⟨k, rfl, hk2⟩ := succ_of hk
    have e3 : (dn ++ List.replicate (d :: rest).length (0 : Int)).set ((done.length : Int)).toNat (n / prodS rest) = (dn ++ [n / prodS rest]) ++ List.replicate rest.length 0 := by
      rw [List.length_cons, List.replicate_succ, Int.toNat_natCast, ← hdn, set_mid]
      simp
    simp only [triglyphref03_Places.l0]
    rw [if_pos (by omega), if_pos (by omega), e1, if_neg (by omega), e2, if_neg (by omega), if_pos (by simp; omega), Int.tdiv_eq_ediv_of_nonneg h0, Int.tmod_eq_emod_of_nonneg h0, wrap_in (show -9223372036854775808 ≤ n / prodS rest by omega) (by omega), e3, wrap_next _ d (by omega), rf]
    have := hK k hk2
    simpa using this
def placesS (s : List Int) (n : Int) : List Int × Int := if (sizeS s).2 = 0 then (if n < 0 then ([], 8) else if n ≥ (sizeS s).1 then ([], 8) else ((dg s n).1, 0)) else ([], (sizeS s).2)
theorem rplaces_eq (s : List Int) (n : Int) : ∃ K, ∀ k, K ≤ k → triglyphref03_Places.f k s n = some (placesS s n) := by
  obtain ⟨K0, hK0⟩ := rsize_eq s
  have hbd := sizeS_bd s
  unfold placesS
  by_cases h1 : (sizeS s).2 = 0
  · rw [if_pos h1]
    by_cases h2 : n < 0
    · refine ⟨K0 + 1, fun k hk => ?_⟩
      obtain ⟨k, rfl, hk2⟩ := succ_of hk
      unfold triglyphref03_Places.f
      rw [hK0 (k + 1) (by omega)]
      simp only [Option.bind_some]
      rw [if_pos h1, if_pos h2, if_pos h2]
      simp only [triglyphref03_Places.j0]
      rw [if_pos True.intro]
    · rw [if_neg h2]
      by_cases h3 : n ≥ (sizeS s).1
      · refine ⟨K0 + 1, fun k hk => ?_⟩
        obtain ⟨k, rfl, hk2⟩ := succ_of hk
        unfold triglyphref03_Places.f
        rw [hK0 (k + 1) (by omega)]
        simp only [Option.bind_some]
        rw [if_pos h1, if_neg h2, decide_eq_true h3, if_pos h3]
        simp only [triglyphref03_Places.j0]
        rw [if_pos True.intro]
      · rw [if_neg h3]
        obtain ⟨hd, hp, hl⟩ := sizeS_ok h1 (by omega)
        obtain ⟨K, hK⟩ := rps_l0 s s [] n [] rfl rfl hl hd (by omega) (by omega) (by omega)
        refine ⟨K0 + K + 1, fun k hk => ?_⟩
        obtain ⟨k, rfl, hk2⟩ := succ_of hk
        have h5 := hK k (by omega)
        unfold triglyphref03_Places.f
        rw [hK0 (k + 1) (by omega)]
        simp only [Option.bind_some]
        rw [if_pos h1, if_neg h2, decide_eq_false h3]
        simp only [triglyphref03_Places.j0]
        rw [if_neg (by simp), if_pos (by omega), Int.toNat_natCast, if_pos (by omega), hp, dg_low s n hd (by omega) (by omega)]
        simpa using h5
  · refine ⟨K0, fun k hk => ?_⟩
    unfold triglyphref03_Places.f
    rw [hK0 k (by omega)]
    simp only [Option.bind_some]
    rw [if_neg h1, if_neg h1]
theorem dg_len : ∀ (s : List Int) (n : Int), (dg s n).1.length = s.length
  | [], n => rfl
  | d :: s, n => by rw [dg]; simp [dg_len s n]
end Go.Proofs.Ytahgfebdjjfkhaa.Pure
namespace Go.Proofs.Ytahgfebdjjfkhaa.Pure
open Go.RowKit Go.Proofs.Ytahgfebdjjfkhaa.P Go.Proofs.Ytahgfebdjjfkhaa.Nest Go.Proofs.YtahgfebdjjfkhaaW.PrintWords Go.Proofs.YtahgfebdjjfkhaaW.PrintLast Go.Proofs.YtahgfebdjjfkhaaW.PrintMore
set_option linter.unusedVariables false
set_option linter.unusedSimpArgs false
/-- Places within a shape. -/
def within : List Int → List Int → Prop
  | [], [] => True
  | a :: l, d :: s => (0 ≤ a ∧ a < d) ∧ within l s
  | _, _ => False
/-- The cell at places. -/
def hv : List Int → List Int → Int
  | a :: l, d :: s => a * prodS s + hv l s
  | _, _ => 0
theorem within_pos : ∀ {l s : List Int}, within l s → ∀ d ∈ s, 1 ≤ d
  | [], [], _ => by simp
  | a :: l, d :: s, h => by
    rw [within] at h
    intro x hx
    rcases List.mem_cons.1 hx with rfl | hx
    · omega
    · exact within_pos h.2 x hx
  | [], d :: s, h => by cases h
  | a :: l, [], h => by cases h
theorem plc_of : ∀ {l s : List Int} {n : Int}, within l s → 0 ≤ n → (n + 1) * prodS s ≤ 16384 → plc n l s = (n * prodS s + hv l s, 0)
  | [], [], n, _, _, _ => by simp [plc, hv, prodS]
  | a :: l, d :: s, n, h, h0, h1 => by
    have hp := within_pos h
    rw [within] at h
    have hP := prodS_pos (s := s) (fun x hx => hp x (List.mem_cons_of_mem _ hx))
    have hd := hp d List.mem_cons_self
    rw [prodS, ← Int.mul_assoc] at h1
    have hnd : 0 ≤ n * d := Int.mul_nonneg h0 (by omega)
    have e1 : (n + 1) * d = n * d + d := by rw [Int.add_mul, Int.one_mul]
    rw [e1] at h1
    have m1 : (n * d + d) * 1 ≤ (n * d + d) * prodS s := Int.mul_le_mul_of_nonneg_left hP (by omega)
    have m2 : (n * d + a + 1) * prodS s ≤ (n * d + d) * prodS s := Int.mul_le_mul_of_nonneg_right (by omega) (by omega)
    rw [plc, if_neg (by omega), if_neg (by omega), wrap_in (show -9223372036854775808 ≤ n * d by omega) (by omega), wrap_in (by omega) (by omega), plc_of h.2 (by omega) (by omega), hv, prodS, Int.add_mul, ← Int.mul_assoc]
    congr 1
    omega
  | [], d :: s, _, h, _, _ => by cases h
  | a :: l, [], _, h, _, _ => by cases h
end Go.Proofs.Ytahgfebdjjfkhaa.Pure
