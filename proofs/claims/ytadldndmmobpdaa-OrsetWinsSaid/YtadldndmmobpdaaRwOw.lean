/- For any set of additions, any text, any tag and any other text OrsetWins answers true and leaves its arguments as they were: no condition on them. -/
import Derived.Test.YtadldndmmobpdaaTwOw
import Derived.Test.YtadldndmmobpdaaM5
import Derived.SevenTiedAt
import Derived.Carry
namespace Go.Proofs.Ytadldndmmobpdaa
open Go.ChangeShapes Go.WideShapes Go.ChangeAt Go.RowKit

section
variable {H : Type} {enc : TypeId × Value → H} {w : World} {base : Nat} {spare : Nat → Bool} {held : Bool}
set_option maxRecDepth 100000 in
theorem open_tag {r : Reach} {b0 : Nat} {v : Value} {d : DataW H} {p : List MemPlace} (hv : Value.okWide Try.prog w r b0 79 v) (h : DataW.Trod enc Try.prog w base spare held 79 v d p) :
    ∃ t : Tm, v = .agg #[.int .i64 t.1.1, .int .u32 t.1.2, .int .i64 t.2] ∧ t.wf := by
  obtain ⟨cs, rfl, hsz⟩ := okWide_struct Try.underlying79 hv
  have hr : Reads enc Try.prog w base spare held 79 cs.toList := reads_of h
  obtain ⟨t, ht, hw⟩ := reads_tm (by rw [Array.length_toList, hsz]; kernel_rfl) hr
  have e : cs = t.enc.toArray := by rw [← ht]
  exact ⟨t, by rw [e]; rfl, hw⟩
end
set_option maxRecDepth 100000 in
theorem orsetwins_lifted (os : Os) (started : os.Started) (H : Type) (enc : TypeId × Value → H) :
    ReturnsInHanded {} Try.checked os 10 .any (Rows.orsetWinsSpec.pre6 enc Try.prog Try.f10 Rows.orsetWinsRow.domain false) (Rows.orsetWinsSpec.post enc Try.prog Try.f10 false true false false) := by
  refine returnsInHanded_of_change (C := Try.checked) own_ok started (by kernel_rfl) Try.func10
    (ChangeSpec.witness6 (enc := enc) (C := Try.checked) false ⟨#[], #[.agg #[.slice none 0 0, .slice none 0 0], .string ⟨#[]⟩, .agg #[.int .i64 0, .int .u32 0, .int .i64 0], .string ⟨#[]⟩], []⟩ 8 (by kernel_rfl) (by kernel_rfl) (by kernel_rfl) (by kernel_rfl)) ?_
  intro W base args ds gs before hval0 hW hcnd _
  have hval : ∀ (j : Nat) t v, Try.f10.params[j]? = some t → args[j]? = some v → Value.okWide Try.prog W .any base t v := hval0
  have hW' := hW
  obtain ⟨p, q, hA0, hV, rfl, hfz, hnd⟩ := hW
  have hA : DataW.TrodAll enc Try.prog W 0 (fun _ => true) true Try.f10.params.toList args.toList ds p := hA0
  obtain ⟨rfl, rfl⟩ := trodVars_none hV
  rw [List.append_nil] at hW'
  have hlt : ∀ x ∈ p, x.block < W.heap.size := fun x hx => hW'.lt x hx
  have hback : ∀ (W' : World) (sp : Nat → Bool), Below W.heap.size W W' → (∀ x ∈ p, sp x.block = true) → DataW.TrodAll enc Try.prog W' 0 sp true Try.f10.params.toList args.toList ds p :=
    fun W' sp hb hs => trodAll_stays laid_ok hb (by rw [Try.params10]; intro t ht; simp only [List.mem_cons, List.not_mem_nil, or_false] at ht; rcases ht with rfl | rfl | rfl | rfl <;> exact ⟨by kernel_rfl, of_decide_eq_true (by kernel_rfl)⟩) hlt hs hA
  rw [Try.params10] at hA hval
  obtain ⟨v0, v1, v2, v3, d0, d1, d2, d3, p0, p1, p2, p3, hargs, rfl, rfl, h0, h1, h2, h3⟩ := trodAll_four hA
  obtain rfl : args = #[v0, v1, v2, v3] := by rw [← hargs]
  obtain ⟨A, n, c, xs, B, m, d, gs, rfl, hX, hxw, hY, hgw, hnc, hcm, hmd, hdm⟩ := open_oset (hval 0 _ v0 rfl rfl) h0
  obtain ⟨e, rfl, hel⟩ := open_str (hval 1 _ v1 rfl rfl) h1
  obtain ⟨t, rfl, htw⟩ := open_tag (hval 2 _ v2 rfl rfl) h2
  obtain ⟨o, rfl, hol⟩ := open_str (hval 3 _ v3 rfl rfl) h3
  clear hA0 hval0 hA h0 h1 h2 h3 hargs
  refine (orsetwins_any A n c xs B m d gs e t o W hX hY (fun a ha => (hxw a ha).1) hgw (fun a ha => (hxw a ha).2) htw hel).mono fun e W' ⟨he, hb⟩ => ?_
  subst he
  exact ⟨_, rfl, post_of_below (pa := p0 ++ p1 ++ p2 ++ p3) (pv := []) hW' (fun _ _ _ => trodAll_mk1 (shut_bool Try.underlying4)) (fun sp hs => hback W' sp hb hs) (fun _ _ => rfl) (by simp) hb (ok_one (by kernel_rfl) rfl (okWide_bool_mk Try.underlying4))⟩
theorem orsetwins_holds : Rows.OrsetWinsSaid :=
  OpenClaim.holds_of_wide 10 Try.f10 rfl rfl rfl rfl rfl rfl rfl ⟨rfl, rfl, rfl, rfl, rfl⟩ rfl rfl rfl rfl rfl (by kernel_rfl) Try.func10 (by kernel_rfl)
    (of_decide_eq_true (by kernel_rfl)) (by unfold Func.isWrapper; first | (rw [if_pos (by decide +kernel)]; kernel_rfl) | (rw [if_neg (by decide +kernel)]; exact ⟨rfl, rfl⟩))
    (fun os started H enc _ => orsetwins_lifted os started H enc)
end Go.Proofs.Ytadldndmmobpdaa
