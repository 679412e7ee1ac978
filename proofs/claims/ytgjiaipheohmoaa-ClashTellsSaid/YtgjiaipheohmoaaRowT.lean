/- The statement ClashTells: opened, walked, shut. -/
import Derived.Test.YtgjiaipheohmoaaClT
import Derived.Test.YtgjiaipheohmoaaRowB
namespace Go.Proofs.Ytgjiaipheohmoaa
open Go.ChangeShapes Go.WideShapes Go.ChangeAt Go.RowKit

theorem open_txs {H : Type} {enc : TypeId × Value → H} {w : World} {base : Nat} {spare : Nat → Bool} {held : Bool} {r : Reach} {b0 : Nat} {v : Value} {d : DataW H} {p : List MemPlace}
    (hv : Value.okWide Try.prog w r b0 32 v) (h : DataW.Trod enc Try.prog w base spare held 32 v d p) :
    ∃ (A : Option Addr) (n c : Nat) (us : List Txm), v = .slice A n c ∧ RdT w w.heap.size A n us ∧ n ≤ maxLen := by
  obtain ⟨a0, l0, c0, rfl⟩ := okWide_slice Try.underlying32 hv
  obtain ⟨A, l, c, us, hA, hR, hQ, hlc, hcm⟩ := reads_slice (v := .slice a0 l0 c0) Txm.enc (fun t => RdP w w.heap.size t.A t.n t.ps ∧ t.n ≤ maxLen) Try.underlying32 (by kernel_rfl) (by decide) (fun cs hl h => reads_tx hl h) (reads_of h)
  exact ⟨A, l, c, us, hA, ⟨hR, hQ⟩, Nat.le_trans hlc hcm⟩

set_option maxRecDepth 100000 in
theorem tells_lifted (os : Os) (started : os.Started) (H : Type) (enc : TypeId × Value → H) :
    ReturnsInHanded {} Try.checked os 3 .any (Rows.clashTellsSpec.pre6 enc Try.prog Try.f3 Rows.clashTellsRow.domain false) (Rows.clashTellsSpec.post enc Try.prog Try.f3 false true false false) := by
  refine returnsInHanded_of_change (C := Try.checked) own_ok started (by kernel_rfl) Try.func3
    (ChangeSpec.witness6 (enc := enc) (C := Try.checked) false ⟨#[], #[.agg #[.int .i64 0, .string ⟨#[]⟩, .int .i64 0], .agg #[.int .i64 0, .string ⟨#[]⟩, .int .i64 0],
      .agg #[.int .i64 0, .int .u32 0, .int .u32 0, .int .u32 0, .int .u32 0, .int .u32 0, .int .u32 0, .int .u32 0, .int .u32 0, .int .u32 0, .bool false, .slice none 0 0], .slice none 0 0], []⟩ 8 (by kernel_rfl) (by kernel_rfl) (by kernel_rfl) (by kernel_rfl)) ?_
  intro W base args ds gs before hval0 hW hcnd _
  have hval : ∀ (j : Nat) t v, Try.f3.params[j]? = some t → args[j]? = some v → Value.okWide Try.prog W .any base t v := hval0
  have hW' := hW
  obtain ⟨p, q, hA0, hV, rfl, hfz, hnd⟩ := hW
  have hA : DataW.TrodAll enc Try.prog W 0 (fun _ => true) true Try.f3.params.toList args.toList ds p := hA0
  obtain ⟨rfl, rfl⟩ := trodVars_none hV
  rw [List.append_nil] at hW'
  have hlt : ∀ x ∈ p, x.block < W.heap.size := fun x hx => hW'.lt x hx
  have hback : ∀ (W' : World) (sp : Nat → Bool), Below W.heap.size W W' → (∀ x ∈ p, sp x.block = true) → DataW.TrodAll enc Try.prog W' 0 sp true Try.f3.params.toList args.toList ds p :=
    fun W' sp hb hs => trodAll_stays laid_ok hb (by rw [Try.params3]; intro t ht; simp only [List.mem_cons, List.not_mem_nil, or_false] at ht; rcases ht with rfl | rfl | rfl | rfl <;> exact ⟨by kernel_rfl, of_decide_eq_true (by kernel_rfl)⟩) hlt hs hA
  rw [Try.params3] at hA hval
  obtain ⟨v0, v1, v2, v3, d0, d1, d2, d3, p0, p1, p2, p3, hargs, rfl, rfl, h0, h1, h2, h3⟩ := trodAll_four hA
  obtain rfl : args = #[v0, v1, v2, v3] := by rw [← hargs]
  obtain ⟨a, rfl⟩ := open_op (hval 0 _ v0 rfl rfl) h0
  obtain ⟨b, rfl⟩ := open_op (hval 1 _ v1 rfl rfl) h1
  obtain ⟨t, rfl, ht, htn⟩ := open_tx (hval 2 _ v2 rfl rfl) h2
  obtain ⟨A, n, c, us, rfl, hu, hn⟩ := open_txs (hval 3 _ v3 rfl rfl) h3
  clear hA0 hval0 hA h0 h1 h2 h3 hargs
  refine (tells_any a b t A n c us W ht hu htn hn).mono fun e W' ⟨he, hb⟩ => ?_
  subst he
  exact ⟨_, rfl, post_of_below (pa := p0 ++ p1 ++ p2 ++ p3) (pv := []) hW' (fun _ _ _ => trodAll_mk1 (shut_bool Try.underlying4)) (fun sp hs => hback W' sp hb hs) (fun _ _ => rfl) (by simp) hb (ok_one (by kernel_rfl) rfl (okWide_bool_mk Try.underlying4))⟩

theorem tells_holds : Rows.ClashTellsSaid :=
  OpenClaim.holds_of_wide 3 Try.f3 rfl rfl rfl rfl rfl rfl rfl ⟨rfl, rfl, rfl, rfl, rfl⟩ rfl rfl rfl rfl rfl (by kernel_rfl) Try.func3 (by kernel_rfl)
    (of_decide_eq_true (by kernel_rfl)) (by unfold Func.isWrapper; first | (rw [if_pos (by decide +kernel)]; kernel_rfl) | (rw [if_neg (by decide +kernel)]; exact ⟨rfl, rfl⟩))
    (fun os started H enc _ => tells_lifted os started H enc)
end Go.Proofs.Ytgjiaipheohmoaa
