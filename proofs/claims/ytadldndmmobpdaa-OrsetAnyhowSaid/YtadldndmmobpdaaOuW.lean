/- OrsetWins' law on plain sets. -/
import Derived.Test.YtadldndmmobpdaaM28
import Derived.Test.YtadldndmmobpdaaOtJ
namespace Go.Proofs.Ytadldndmmobpdaa

theorem tagsO_mem {xs : List Am} {gs : List Tm} {e : List UInt8} (h : oErr xs gs = 0) (t : Tm) : t ∈ tagsO xs gs e ↔ ∃ a ∈ xs, a.1 = t ∧ a.2 = e := by
  unfold tagsO
  rw [if_neg (by rw [h]; simp), List.mem_map]
  constructor
  · rintro ⟨a, ha, rfl⟩
    rw [List.mem_filter] at ha
    exact ⟨a, ha.1, rfl, by simpa using ha.2⟩
  · rintro ⟨a, ha, rfl, he⟩
    exact ⟨a, List.mem_filter.2 ⟨ha, by simpa using he⟩, rfl⟩
theorem tagsO_len {xs : List Am} {gs : List Tm} {e : List UInt8} : (tagsO xs gs e).length ≤ xs.length := by
  unfold tagsO
  split
  · simp
  · rw [List.length_map]; exact List.length_filter_le _ _
theorem hasO_iff {xs : List Am} {gs : List Tm} {e : List UInt8} (h : oErr xs gs = 0) : hasO xs gs e = true ↔ ∃ a ∈ xs, a.2 = e := by
  unfold hasO
  rw [decide_eq_true_eq, List.length_pos_iff_exists_mem]
  constructor
  · rintro ⟨t, ht⟩
    obtain ⟨a, ha, _, he⟩ := (tagsO_mem h t).1 ht
    exact ⟨a, ha, he⟩
  · rintro ⟨a, ha, he⟩
    exact ⟨a.1, (tagsO_mem h a.1).2 ⟨a, ha, rfl, he⟩⟩
theorem hasO_false {xs : List Am} {gs : List Tm} {e : List UInt8} (h : oErr xs gs = 0) (hh : ∀ a ∈ xs, a.2 ≠ e) : hasO xs gs e = false := by
  rw [Bool.eq_false_iff]
  intro hc
  obtain ⟨a, ha, he⟩ := (hasO_iff h).1 hc
  exact hh a ha he
theorem wins_law {xs : List Am} {gs : List Tm} {e o : List UInt8} {t : Tm} (hE : oErr xs gs = 0) (he : elemB e = true) (hn : xs.length ≤ 200) (hm : gs.length ≤ 200)
    {S : List Tm} {G P Q U : (List Am × List Tm) × Int} (hS : S = tagsO xs gs e) (hG : G = dropO xs gs S) (hP : P = putO xs gs (t, e)) (hQ : Q = dropO P.1.1 P.1.2 S) (hU : U = putO G.1.1 G.1.2 (t, e)) :
    G.2 = 0 ∧ hasO G.1.1 G.1.2 e = false ∧ (o ≠ e → hasO G.1.1 G.1.2 o = hasO xs gs o) ∧
      (P.2 = 0 → Q.2 = 0 ∧ U.2 = 0 ∧ (t ∈ gs → hasO Q.1.1 Q.1.2 e = false ∧ hasO U.1.1 U.1.2 e = false) ∧
        (t ∉ S → t ∉ gs → Q.1 = U.1 ∧ (t ∈ xs.map Prod.fst ∨ hasO Q.1.1 Q.1.2 e = true))) := by
  have hz := errK_zero.1 (show errK Prod.fst (fun a : Am => elemB a.2) xs gs = 0 from hE)
  obtain ⟨_, _, hx3, hg4, hx5, hg6, hx7⟩ := hz
  have hSm : ∀ u, u ∈ S ↔ ∃ a ∈ xs, a.1 = u ∧ a.2 = e := fun u => by rw [hS]; exact tagsO_mem hE u
  have hSl : S.length ≤ 200 := by rw [hS]; exact Nat.le_trans tagsO_len hn
  have hSc : ∀ u ∈ S, chkT u = true := fun u hu => by
    obtain ⟨a, ha, rfl, _⟩ := (hSm u).1 hu
    exact hx3 a ha
  have sG := dropK_spec (key := Prod.fst) (ok1 := fun a : Am => elemB a.2) (l := S) hE hSc (by omega)
  change (dropO xs gs S).2 = 0 ∧ oErr (dropO xs gs S).1.1 (dropO xs gs S).1.2 = 0 ∧ (∀ z, z ∈ (dropO xs gs S).1.1 ↔ z ∈ xs ∧ z.1 ∉ S) ∧ (∀ u, u ∈ (dropO xs gs S).1.2 ↔ u ∈ S ∨ u ∈ gs) ∧ (dropO xs gs S).1.1.length ≤ xs.length ∧ (dropO xs gs S).1.2.length ≤ gs.length + S.length at sG
  rw [← hG] at sG
  obtain ⟨g1, g2, g3, g4, g5, g6⟩ := sG
  have hgone : ∀ a ∈ G.1.1, a.2 ≠ e := fun a ha hae => ((g3 a).1 ha).2 ((hSm _).2 ⟨a, ((g3 a).1 ha).1, rfl, hae⟩)
  refine ⟨g1, hasO_false g2 hgone, fun ho => ?_, fun hp0 => ?_⟩
  · rw [Bool.eq_iff_iff, hasO_iff g2, hasO_iff hE]
    constructor
    · rintro ⟨a, ha, h⟩
      exact ⟨a, ((g3 a).1 ha).1, h⟩
    · rintro ⟨a, ha, h⟩
      refine ⟨a, (g3 a).2 ⟨ha, fun hS2 => ?_⟩, h⟩
      obtain ⟨b, hb, hb1, hb2⟩ := (hSm _).1 hS2
      have := ascK_inj hx5 hb ha hb1
      subst this
      exact ho (h.symm.trans hb2)
  · have hct : chkT t = true := by
      rcases Bool.eq_false_or_eq_true (chkT t) with h | h
      · exact h
      · exact absurd (hP ▸ hp0 : (putO xs gs (t, e)).2 = 0) (putK_err (key := Prod.fst) (ok1 := fun a : Am => elemB a.2) (.inl h))
    have sP := putK_spec (key := Prod.fst) (ok1 := fun a : Am => elemB a.2) (a := (t, e)) hE hct he (by omega)
    change (putO xs gs (t, e)).2 = 0 ∧ (putO xs gs (t, e)).1.2 = gs ∧ oErr (putO xs gs (t, e)).1.1 gs = 0 ∧ (∀ z, z ∈ (putO xs gs (t, e)).1.1 ↔ z ∈ xs ∨ (z = (t, e) ∧ t ∉ xs.map Prod.fst ∧ t ∉ gs)) ∧ (putO xs gs (t, e)).1.1.length ≤ xs.length + 1 at sP
    rw [← hP] at sP
    obtain ⟨_, p2, p3, p4, p5⟩ := sP
    rw [p2] at hQ
    have sQ := dropK_spec (key := Prod.fst) (ok1 := fun a : Am => elemB a.2) (l := S) p3 hSc (by omega)
    change (dropO P.1.1 gs S).2 = 0 ∧ oErr (dropO P.1.1 gs S).1.1 (dropO P.1.1 gs S).1.2 = 0 ∧ (∀ z, z ∈ (dropO P.1.1 gs S).1.1 ↔ z ∈ P.1.1 ∧ z.1 ∉ S) ∧ (∀ u, u ∈ (dropO P.1.1 gs S).1.2 ↔ u ∈ S ∨ u ∈ gs) ∧ _ at sQ
    rw [← hQ] at sQ
    obtain ⟨q1, q2, q3, q4, _⟩ := sQ
    have sU := putK_spec (key := Prod.fst) (ok1 := fun a : Am => elemB a.2) (a := (t, e)) g2 hct he (by omega)
    change (putO G.1.1 G.1.2 (t, e)).2 = 0 ∧ (putO G.1.1 G.1.2 (t, e)).1.2 = G.1.2 ∧ oErr (putO G.1.1 G.1.2 (t, e)).1.1 G.1.2 = 0 ∧ (∀ z, z ∈ (putO G.1.1 G.1.2 (t, e)).1.1 ↔ z ∈ G.1.1 ∨ (z = (t, e) ∧ t ∉ G.1.1.map Prod.fst ∧ t ∉ G.1.2)) ∧ _ at sU
    rw [← hU] at sU
    obtain ⟨u1, u2, u3, u4, _⟩ := sU
    refine ⟨q1, u1, fun htg => ?_, fun hts htg => ⟨?_, ?_⟩⟩
    · refine ⟨hasO_false q2 fun a ha hae => ?_, hasO_false (by rw [u2]; exact u3) fun a ha hae => ?_⟩
      · obtain ⟨k1, k2⟩ := (q3 a).1 ha
        rcases (p4 a).1 k1 with h | ⟨rfl, _, h⟩
        · exact k2 ((hSm _).2 ⟨a, h, rfl, hae⟩)
        · exact h htg
      · rcases (u4 a).1 ha with h | ⟨rfl, _, h⟩
        · exact hgone a h hae
        · exact h ((g4 t).2 (.inr htg))
    · have hx := errK_ext (key := Prod.fst) (ok1 := fun a : Am => elemB a.2) (xs := Q.1.1) (gs := Q.1.2) (ys := U.1.1) (hs := U.1.2) q2 (by rw [u2]; exact u3) (fun z => ?_) (fun u => by rw [u2, q4, g4])
      · exact Prod.ext hx.1 hx.2
      · rw [q3, p4, u4, g3]
        constructor
        · rintro ⟨h | ⟨rfl, k1, k2⟩, h2⟩
          · exact .inl ⟨h, h2⟩
          · refine .inr ⟨rfl, fun hm2 => ?_, fun hm2 => ?_⟩
            · obtain ⟨b, hb, hb1⟩ := List.mem_map.1 hm2
              exact k1 (hb1 ▸ List.mem_map_of_mem ((g3 b).1 hb).1)
            · rcases (g4 t).1 hm2 with h8 | h8
              · exact hts h8
              · exact htg h8
        · rintro (⟨h, h2⟩ | ⟨rfl, k1, k2⟩)
          · exact ⟨.inl h, h2⟩
          · refine ⟨.inr ⟨rfl, fun hm2 => ?_, htg⟩, hts⟩
            obtain ⟨b, hb, hb1⟩ := List.mem_map.1 hm2
            exact k1 (by rw [← hb1]; exact List.mem_map_of_mem ((g3 b).2 ⟨hb, by rw [hb1]; exact hts⟩))
    · by_cases htx : t ∈ xs.map Prod.fst
      · exact .inl htx
      · refine .inr ((hasO_iff q2).2 ⟨(t, e), (q3 _).2 ⟨(p4 _).2 (.inr ⟨rfl, htx, htg⟩), hts⟩, rfl⟩)
end Go.Proofs.Ytadldndmmobpdaa
