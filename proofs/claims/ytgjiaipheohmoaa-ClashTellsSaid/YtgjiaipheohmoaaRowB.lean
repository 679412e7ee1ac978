/- The statement ClashBoth: opened, walked, shut. -/
import Derived.Test.YtgjiaipheohmoaaRows
import Derived.Test.YtgjiaipheohmoaaClX
import Derived.Test.YtgjiaipheohmoaaOpn
namespace Go.Proofs.Ytgjiaipheohmoaa
open Go.ChangeShapes Go.WideShapes Go.ChangeAt Go.RowKit

instance : Inhabited Tg := ⟨⟨0, 0, 0⟩⟩
theorem own_ok : ownKnob Try.prog.godebug = none := by kernel_rfl
theorem laid_ok : laidOutB Try.prog = true := by kernel_rfl

section
variable {H : Type} {enc : TypeId × Value → H} {w : World} {base : Nat} {spare : Nat → Bool} {held : Bool}
theorem reads_tag {cs : List Value} (hl : cs.length = 3) (h : Reads enc Try.prog w base spare held 51 cs) : ∃ p : Tg, cs = p.enc ∧ True := by
  obtain ⟨a, b, c, rfl⟩ := list3 hl
  have hi := reads_field 0 0 2 Try.underlying51 rfl rfl rfl (by kernel_rfl) h
  obtain ⟨x, rfl⟩ := reads_int Try.underlying3 (reads_field 0 0 1 Try.underlying26 rfl rfl rfl (by kernel_rfl) hi)
  obtain ⟨y, rfl⟩ := reads_int Try.underlying24 (reads_field 1 1 1 Try.underlying26 rfl rfl rfl (by kernel_rfl) hi)
  obtain ⟨z, rfl⟩ := reads_int Try.underlying3 (reads_field 1 2 1 Try.underlying51 rfl rfl rfl (by kernel_rfl) h)
  exact ⟨⟨x, y, z⟩, rfl, trivial⟩
theorem reads_part {cs : List Value} (hl : cs.length = 10) (h : Reads enc Try.prog w base spare held 58 cs) : ∃ p : Pt, cs = p.enc ∧ p.Ok w w.heap.size := by
  obtain ⟨c0, c1, c2, c3, c4, c5, c6, c7, c8, c9, rfl⟩ := list10 hl
  obtain ⟨x0, rfl, _⟩ := reads_string Try.underlying9 (reads_field 0 0 1 Try.underlying58 rfl rfl rfl (by kernel_rfl) h)
  have he := reads_field 1 1 9 Try.underlying58 rfl rfl rfl (by kernel_rfl) h
  obtain ⟨x1, rfl⟩ := reads_int Try.underlying3 (reads_field 0 0 1 Try.underlying56 rfl rfl rfl (by kernel_rfl) he)
  obtain ⟨x2, rfl, _⟩ := reads_string Try.underlying9 (reads_field 1 1 1 Try.underlying56 rfl rfl rfl (by kernel_rfl) he)
  obtain ⟨x3, rfl⟩ := reads_int Try.underlying2 (reads_field 2 2 1 Try.underlying56 rfl rfl rfl (by kernel_rfl) he)
  obtain ⟨tg, htg, _⟩ := reads_tag rfl (reads_field 3 3 3 Try.underlying56 rfl rfl rfl (by kernel_rfl) he)
  have ha := reads_field 4 6 2 Try.underlying56 rfl rfl rfl (by kernel_rfl) he
  obtain ⟨x7, rfl⟩ := reads_int Try.underlying24 (reads_field 0 0 1 Try.underlying53 rfl rfl rfl (by kernel_rfl) ha)
  obtain ⟨x8, rfl⟩ := reads_int Try.underlying3 (reads_field 1 1 1 Try.underlying53 rfl rfl rfl (by kernel_rfl) ha)
  obtain ⟨A, l, c, ts, rfl, hR, _, _, _⟩ := reads_slice Tg.enc (fun _ => True) Try.underlying54 (by kernel_rfl) (by decide) (fun cs hl h => reads_tag hl h) (reads_field 5 8 1 Try.underlying56 rfl rfl rfl (by kernel_rfl) he)
  simp only [List.drop, List.take, Tg.enc, List.cons.injEq, and_true] at htg
  obtain ⟨rfl, rfl, rfl⟩ := htg
  exact ⟨⟨x0, x1, x2, x3, tg.o, tg.s, tg.n, x7, x8, A, l, c, ts⟩, rfl, hR⟩
theorem reads_tx {cs : List Value} (hl : cs.length = 12) (h : Reads enc Try.prog w base spare held 31 cs) : ∃ t : Txm, cs = t.enc ∧ RdP w w.heap.size t.A t.n t.ps ∧ t.n ≤ maxLen := by
  obtain ⟨c0, c1, c2, c3, c4, c5, c6, c7, c8, c9, c10, c11, rfl⟩ := list12 hl
  have hi := reads_field 0 0 2 Try.underlying31 rfl rfl rfl (by kernel_rfl) h
  obtain ⟨x0, rfl⟩ := reads_int Try.underlying3 (reads_field 0 0 1 Try.underlying26 rfl rfl rfl (by kernel_rfl) hi)
  obtain ⟨x1, rfl⟩ := reads_int Try.underlying24 (reads_field 1 1 1 Try.underlying26 rfl rfl rfl (by kernel_rfl) hi)
  have hv := reads_field 1 2 8 Try.underlying31 rfl rfl rfl (by kernel_rfl) h
  obtain ⟨y0, rfl⟩ := reads_int Try.underlying24 (reads_elem 0 0 1 Try.underlying28 (by decide) (by kernel_rfl) rfl hv)
  obtain ⟨y1, rfl⟩ := reads_int Try.underlying24 (reads_elem 1 1 1 Try.underlying28 (by decide) (by kernel_rfl) rfl hv)
  obtain ⟨y2, rfl⟩ := reads_int Try.underlying24 (reads_elem 2 2 1 Try.underlying28 (by decide) (by kernel_rfl) rfl hv)
  obtain ⟨y3, rfl⟩ := reads_int Try.underlying24 (reads_elem 3 3 1 Try.underlying28 (by decide) (by kernel_rfl) rfl hv)
  obtain ⟨y4, rfl⟩ := reads_int Try.underlying24 (reads_elem 4 4 1 Try.underlying28 (by decide) (by kernel_rfl) rfl hv)
  obtain ⟨y5, rfl⟩ := reads_int Try.underlying24 (reads_elem 5 5 1 Try.underlying28 (by decide) (by kernel_rfl) rfl hv)
  obtain ⟨y6, rfl⟩ := reads_int Try.underlying24 (reads_elem 6 6 1 Try.underlying28 (by decide) (by kernel_rfl) rfl hv)
  obtain ⟨y7, rfl⟩ := reads_int Try.underlying24 (reads_elem 7 7 1 Try.underlying28 (by decide) (by kernel_rfl) rfl hv)
  obtain ⟨x2, rfl⟩ := reads_bool Try.underlying4 (reads_field 2 10 1 Try.underlying31 rfl rfl rfl (by kernel_rfl) h)
  obtain ⟨A, l, c, ps, rfl, hR, hQ, hlc, hcm⟩ := reads_slice Pt.enc (fun p => p.Ok w w.heap.size) Try.underlying29 (by kernel_rfl) (by decide) (fun cs hl h => reads_part hl h) (reads_field 3 11 1 Try.underlying31 rfl rfl rfl (by kernel_rfl) h)
  exact ⟨⟨⟨x0, x1, y0, y1, y2, y3, y4, y5, y6, y7, x2⟩, A, l, c, ps⟩, rfl, ⟨hR, hQ⟩, Nat.le_trans hlc hcm⟩
theorem reads_op {cs : List Value} (hl : cs.length = 3) (h : Reads enc Try.prog w base spare held 23 cs) : ∃ a : OpM, cs = [.int .i64 a.act, .string a.name, .int .i64 a.val] := by
  obtain ⟨a, b, c, rfl⟩ := list3 hl
  obtain ⟨x, rfl⟩ := reads_int Try.underlying3 (reads_field 0 0 1 Try.underlying23 rfl rfl rfl (by kernel_rfl) h)
  obtain ⟨y, rfl, _⟩ := reads_string Try.underlying9 (reads_field 1 1 1 Try.underlying23 rfl rfl rfl (by kernel_rfl) h)
  obtain ⟨z, rfl⟩ := reads_int Try.underlying2 (reads_field 2 2 1 Try.underlying23 rfl rfl rfl (by kernel_rfl) h)
  exact ⟨⟨x, y, z⟩, rfl⟩
theorem open_op {r : Reach} {b0 : Nat} {v : Value} {d : DataW H} {p : List MemPlace} (hv : Value.okWide Try.prog w r b0 23 v) (h : DataW.Trod enc Try.prog w base spare held 23 v d p) : ∃ a : OpM, v = .agg #[.int .i64 a.act, .string a.name, .int .i64 a.val] := by
  obtain ⟨cs, rfl, hsz⟩ := okWide_struct Try.underlying23 hv
  obtain ⟨a, ha⟩ := reads_op (cs := cs.toList) (by rw [Array.length_toList, hsz]; kernel_rfl) (reads_of h)
  exact ⟨a, by rw [← ha]⟩
theorem open_tx {r : Reach} {b0 : Nat} {v : Value} {d : DataW H} {p : List MemPlace} (hv : Value.okWide Try.prog w r b0 31 v) (h : DataW.Trod enc Try.prog w base spare held 31 v d p) :
    ∃ t : Txm, v = .agg #[.int .i64 t.h.o, .int .u32 t.h.s, .int .u32 t.h.d0, .int .u32 t.h.d1, .int .u32 t.h.d2, .int .u32 t.h.d3, .int .u32 t.h.d4, .int .u32 t.h.d5, .int .u32 t.h.d6, .int .u32 t.h.d7, .bool t.h.thin, .slice t.A t.n t.c] ∧ RdP w w.heap.size t.A t.n t.ps ∧ t.n ≤ maxLen := by
  obtain ⟨cs, rfl, hsz⟩ := okWide_struct Try.underlying31 hv
  obtain ⟨t, ht, h1, h2⟩ := reads_tx (cs := cs.toList) (by rw [Array.length_toList, hsz]; kernel_rfl) (reads_of h)
  exact ⟨t, by rw [show cs = t.enc.toArray by rw [← ht]]; rfl, h1, h2⟩
end

set_option maxRecDepth 100000 in
theorem both_lifted (os : Os) (started : os.Started) (H : Type) (enc : TypeId × Value → H) :
    ReturnsInHanded {} Try.checked os 4 .any (Rows.clashBothSpec.pre6 enc Try.prog Try.f4 Rows.clashBothRow.domain false) (Rows.clashBothSpec.post enc Try.prog Try.f4 false true false false) := by
  refine returnsInHanded_of_change (C := Try.checked) own_ok started (by kernel_rfl) Try.func4
    (ChangeSpec.witness6 (enc := enc) (C := Try.checked) false ⟨#[], #[.agg #[.int .i64 0, .string ⟨#[]⟩, .int .i64 0], .agg #[.int .i64 0, .string ⟨#[]⟩, .int .i64 0],
      .agg #[.int .i64 0, .int .u32 0, .int .u32 0, .int .u32 0, .int .u32 0, .int .u32 0, .int .u32 0, .int .u32 0, .int .u32 0, .int .u32 0, .bool false, .slice none 0 0],
      .agg #[.int .i64 0, .int .u32 0, .int .u32 0, .int .u32 0, .int .u32 0, .int .u32 0, .int .u32 0, .int .u32 0, .int .u32 0, .int .u32 0, .bool false, .slice none 0 0]], []⟩ 8 (by kernel_rfl) (by kernel_rfl) (by kernel_rfl) (by kernel_rfl)) ?_
  intro W base args ds gs before hval0 hW hcnd _
  have hval : ∀ (j : Nat) t v, Try.f4.params[j]? = some t → args[j]? = some v → Value.okWide Try.prog W .any base t v := hval0
  have hW' := hW
  obtain ⟨p, q, hA0, hV, rfl, hfz, hnd⟩ := hW
  have hA : DataW.TrodAll enc Try.prog W 0 (fun _ => true) true Try.f4.params.toList args.toList ds p := hA0
  obtain ⟨rfl, rfl⟩ := trodVars_none hV
  rw [List.append_nil] at hW'
  have hlt : ∀ x ∈ p, x.block < W.heap.size := fun x hx => hW'.lt x hx
  have hback : ∀ (W' : World) (sp : Nat → Bool), Below W.heap.size W W' → (∀ x ∈ p, sp x.block = true) → DataW.TrodAll enc Try.prog W' 0 sp true Try.f4.params.toList args.toList ds p :=
    fun W' sp hb hs => trodAll_stays laid_ok hb (by rw [Try.params4]; intro t ht; simp only [List.mem_cons, List.not_mem_nil, or_false] at ht; rcases ht with rfl | rfl | rfl | rfl <;> exact ⟨by kernel_rfl, of_decide_eq_true (by kernel_rfl)⟩) hlt hs hA
  rw [Try.params4] at hA hval
  obtain ⟨v0, v1, v2, v3, d0, d1, d2, d3, p0, p1, p2, p3, hargs, rfl, rfl, h0, h1, h2, h3⟩ := trodAll_four hA
  obtain rfl : args = #[v0, v1, v2, v3] := by rw [← hargs]
  obtain ⟨a, rfl⟩ := open_op (hval 0 _ v0 rfl rfl) h0
  obtain ⟨b, rfl⟩ := open_op (hval 1 _ v1 rfl rfl) h1
  obtain ⟨t, rfl, ht, htn⟩ := open_tx (hval 2 _ v2 rfl rfl) h2
  obtain ⟨u, rfl, hu, hun⟩ := open_tx (hval 3 _ v3 rfl rfl) h3
  clear hA0 hval0 hA h0 h1 h2 h3 hargs
  refine (both_any a b t u W ht hu htn hun).mono fun e W' ⟨he, hb⟩ => ?_
  subst he
  exact ⟨_, rfl, post_of_below (pa := p0 ++ p1 ++ p2 ++ p3) (pv := []) hW' (fun _ _ _ => trodAll_mk1 (shut_bool Try.underlying4)) (fun sp hs => hback W' sp hb hs) (fun _ _ => rfl) (by simp) hb (ok_one (by kernel_rfl) rfl (okWide_bool_mk Try.underlying4))⟩

theorem both_holds : Rows.ClashBothSaid :=
  OpenClaim.holds_of_wide 4 Try.f4 rfl rfl rfl rfl rfl rfl rfl ⟨rfl, rfl, rfl, rfl, rfl⟩ rfl rfl rfl rfl rfl (by kernel_rfl) Try.func4 (by kernel_rfl)
    (of_decide_eq_true (by kernel_rfl)) (by unfold Func.isWrapper; first | (rw [if_pos (by decide +kernel)]; kernel_rfl) | (rw [if_neg (by decide +kernel)]; exact ⟨rfl, rfl⟩))
    (fun os started H enc _ => both_lifted os started H enc)
end Go.Proofs.Ytgjiaipheohmoaa
