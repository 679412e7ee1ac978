/- For any map of puts, any put and any text OrmapLast answers true and leaves its arguments as they were: no condition on them. -/
import Derived.Test.YtadldndmmobpdaaTwOl
import Derived.Test.YtadldndmmobpdaaOpM
import Derived.Test.YtadldndmmobpdaaM5
import Derived.SevenTiedAt
namespace Go.Proofs.Ytadldndmmobpdaa
open Go.ChangeShapes Go.WideShapes Go.ChangeAt Go.RowKit

section
variable {H : Type} {enc : TypeId × Value → H} {w : World} {base : Nat} {spare : Nat → Bool} {held : Bool}
set_option maxRecDepth 100000 in
theorem open_mput {r : Reach} {b0 : Nat} {v : Value} {d : DataW H} {p : List MemPlace} (hv : Value.okWide Try.prog w r b0 94 v) (h : DataW.Trod enc Try.prog w base spare held 94 v d p) :
    ∃ a : Pm, v = .agg #[.int .i64 a.1.1.1, .int .u32 a.1.1.2, .int .i64 a.1.2, .string (bs a.2.1), .int .i64 a.2.2.1, .int .u32 a.2.2.2.1, .int .i64 a.2.2.2.2] ∧ a.wf ∧ a.2.1.length ≤ maxLen := by
  obtain ⟨cs, rfl, hsz⟩ := okWide_struct Try.underlying94 hv
  have hr : Reads enc Try.prog w base spare held 94 cs.toList := reads_of h
  obtain ⟨a, ha, hw, hl⟩ := reads_put (by rw [Array.length_toList, hsz]; kernel_rfl) hr
  have e : cs = a.enc.toArray := by rw [← ha]
  exact ⟨a, by rw [e]; rfl, hw, hl⟩
end
set_option maxRecDepth 100000 in
theorem ormaplast_lifted (os : Os) (started : os.Started) (H : Type) (enc : TypeId × Value → H) :
    ReturnsInHanded {} Try.checked os 8 .any (Rows.ormapLastSpec.pre6 enc Try.prog Try.f8 Rows.ormapLastRow.domain false) (Rows.ormapLastSpec.post enc Try.prog Try.f8 false true false false) := by
  refine returnsInHanded_of_change (C := Try.checked) own_ok started (by kernel_rfl) Try.func8
    (ChangeSpec.witness6 (enc := enc) (C := Try.checked) false ⟨#[], #[.agg #[.slice none 0 0, .slice none 0 0], .agg #[.int .i64 0, .int .u32 0, .int .i64 0, .string ⟨#[]⟩, .int .i64 0, .int .u32 0, .int .i64 0], .string ⟨#[]⟩], []⟩ 8 (by kernel_rfl) (by kernel_rfl) (by kernel_rfl) (by kernel_rfl)) ?_
  intro W base args ds gs before hval0 hW hcnd _
  have hval : ∀ (j : Nat) t v, Try.f8.params[j]? = some t → args[j]? = some v → Value.okWide Try.prog W .any base t v := hval0
  have hW' := hW
  obtain ⟨p, q, hA0, hV, rfl, hfz, hnd⟩ := hW
  have hA : DataW.TrodAll enc Try.prog W 0 (fun _ => true) true Try.f8.params.toList args.toList ds p := hA0
  obtain ⟨rfl, rfl⟩ := trodVars_none hV
  rw [List.append_nil] at hW'
  have hlt : ∀ x ∈ p, x.block < W.heap.size := fun x hx => hW'.lt x hx
  have hback : ∀ (W' : World) (sp : Nat → Bool), Below W.heap.size W W' → (∀ x ∈ p, sp x.block = true) → DataW.TrodAll enc Try.prog W' 0 sp true Try.f8.params.toList args.toList ds p :=
    fun W' sp hb hs => trodAll_stays laid_ok hb (by rw [Try.params8]; intro t ht; simp only [List.mem_cons, List.not_mem_nil, or_false] at ht; rcases ht with rfl | rfl | rfl <;> exact ⟨by kernel_rfl, of_decide_eq_true (by kernel_rfl)⟩) hlt hs hA
  rw [Try.params8] at hA hval
  obtain ⟨v0, v1, v2, d0, d1, d2, p0, p1, p2, hargs, rfl, rfl, h0, h1, h2⟩ := trodAll_three hA
  obtain rfl : args = #[v0, v1, v2] := by rw [← hargs]
  obtain ⟨A, n, c, xs, B, m, d, gs, rfl, hX, hxw, hY, hgw, hnc, hcm, hmd, hdm⟩ := open_omap (hval 0 _ v0 rfl rfl) h0
  obtain ⟨a, rfl, haw, hal⟩ := open_mput (hval 1 _ v1 rfl rfl) h1
  obtain ⟨o, rfl, _⟩ := open_str (hval 2 _ v2 rfl rfl) h2
  clear hA0 hval0 hA h0 h1 h2 hargs
  refine (ormaplast_any A n c xs B m d gs a o W hX hY (fun a ha => (hxw a ha).1) hgw (fun a ha => (hxw a ha).2) haw hal).mono fun e W' ⟨he, hb⟩ => ?_
  subst he
  exact ⟨_, rfl, post_of_below (pa := p0 ++ p1 ++ p2) (pv := []) hW' (fun _ _ _ => trodAll_mk1 (shut_bool Try.underlying4)) (fun sp hs => hback W' sp hb hs) (fun _ _ => rfl) (by simp) hb (ok_one (by kernel_rfl) rfl (okWide_bool_mk Try.underlying4))⟩
theorem ormaplast_holds : Rows.OrmapLastSaid :=
  OpenClaim.holds_of_wide 8 Try.f8 rfl rfl rfl rfl rfl rfl rfl ⟨rfl, rfl, rfl, rfl, rfl⟩ rfl rfl rfl rfl rfl (by kernel_rfl) Try.func8 (by kernel_rfl)
    (of_decide_eq_true (by kernel_rfl)) (by unfold Func.isWrapper; first | (rw [if_pos (by decide +kernel)]; kernel_rfl) | (rw [if_neg (by decide +kernel)]; exact ⟨rfl, rfl⟩))
    (fun os started H enc _ => ormaplast_lifted os started H enc)
end Go.Proofs.Ytadldndmmobpdaa
