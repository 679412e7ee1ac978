/- Commands and messages as arguments, opened. -/
import Derived.Test.YtfhandglpjnonaaGreatDoorTwI
import Derived.Test.YtfhandglpjnonaaGreatDoorN50
namespace Go.Proofs.YtfhandglpjnonaaGreatDoor
open Go.ChangeShapes Go.WideShapes Go.ChangeAt Go.RowKit

section
variable {H : Type} {enc : TypeId × Value → H} {w : World} {base : Nat} {spare : Nat → Bool} {held : Bool}
theorem list24 {l : List Value} (h : l.length = 24) : ∃ c0 c1 c2 c3 c4 c5 c6 c7 c8 c9 c10 c11 c12 c13 c14 c15 c16 c17 c18 c19 c20 c21 c22 c23, l = [c0, c1, c2, c3, c4, c5, c6, c7, c8, c9, c10, c11, c12, c13, c14, c15, c16, c17, c18, c19, c20, c21, c22, c23] := by
  obtain ⟨c0, c1, c2, c3, c4, c5, c6, c7, c8, c9, c10, c11, h1⟩ := list12 (l := l.take 12) (by rw [List.length_take]; omega)
  obtain ⟨c12, c13, c14, c15, c16, c17, c18, c19, c20, c21, c22, c23, h2⟩ := list12 (l := l.drop 12) (by rw [List.length_drop]; omega)
  have e := List.take_append_drop 12 l
  rw [h1, h2] at e
  exact ⟨_, _, _, _, _, _, _, _, _, _, _, _, _, _, _, _, _, _, _, _, _, _, _, _, e.symm⟩
theorem list44 {l : List Value} (h : l.length = 44) : ∃ c0 c1 c2 c3 c4 c5 c6 c7 c8 c9 c10 c11 c12 c13 c14 c15 c16 c17 c18 c19 c20 c21 c22 c23 c24 c25 c26 c27 c28 c29 c30 c31 c32 c33 c34 c35 c36 c37 c38 c39 c40 c41 c42 c43, l = [c0, c1, c2, c3, c4, c5, c6, c7, c8, c9, c10, c11, c12, c13, c14, c15, c16, c17, c18, c19, c20, c21, c22, c23, c24, c25, c26, c27, c28, c29, c30, c31, c32, c33, c34, c35, c36, c37, c38, c39, c40, c41, c42, c43] := by
  obtain ⟨c0, c1, c2, c3, c4, c5, c6, c7, c8, c9, c10, c11, c12, c13, c14, c15, c16, c17, c18, c19, c20, c21, c22, c23, h1⟩ := list24 (l := l.take 24) (by rw [List.length_take]; omega)
  obtain ⟨c24, c25, c26, c27, c28, c29, c30, c31, c32, c33, c34, c35, h2⟩ := list12 (l := (l.drop 24).take 12) (by rw [List.length_take, List.length_drop]; omega)
  obtain ⟨c36, c37, c38, c39, c40, c41, c42, c43, h3⟩ := list8 (l := (l.drop 24).drop 12) (by rw [List.length_drop, List.length_drop]; omega)
  have e := List.take_append_drop 24 l
  rw [← List.take_append_drop 12 (l.drop 24), h1, h2, h3] at e
  exact ⟨_, _, _, _, _, _, _, _, _, _, _, _, _, _, _, _, _, _, _, _, _, _, _, _, _, _, _, _, _, _, _, _, _, _, _, _, _, _, _, _, _, _, _, _, e.symm⟩
theorem reads_cmd {cs : List Value} (hl : cs.length = 24) (h : Reads enc Tryz.prog w base spare held 34 cs) : ∃ c : Cm, cs = [.int .i64 c.kd, .int .i64 c.x.1, .int .u32 c.x.2, .int .u32 c.v.d0, .int .u32 c.v.d1, .int .u32 c.v.d2, .int .u32 c.v.d3, .int .u32 c.v.d4, .int .u32 c.v.d5, .int .u32 c.v.d6, .int .u32 c.v.d7, .bool c.t, .slice c.T c.k c.kc, .int .i64 c.sn, .int .i64 c.wh, .slice c.B c.m c.mc, .int .u32 c.u.d0, .int .u32 c.u.d1, .int .u32 c.u.d2, .int .u32 c.u.d3, .int .u32 c.u.d4, .int .u32 c.u.d5, .int .u32 c.u.d6, .int .u32 c.u.d7] ∧ c.Raw w := by
  obtain ⟨c0, c1, c2, c3, c4, c5, c6, c7, c8, c9, c10, c11, c12, c13, c14, c15, c16, c17, c18, c19, c20, c21, c22, c23, rfl⟩ := list24 hl
  obtain ⟨kd, rfl⟩ := reads_int Tryz.underlying3 (reads_field 0 0 1 Tryz.underlying34 rfl rfl rfl (by kernel_rfl) h)
  obtain ⟨x, v, t, T, k, kc, ps, hx, hxw, hvw, hT, hp, hk⟩ := reads_txe (cs := [c1, c2, c3, c4, c5, c6, c7, c8, c9, c10, c11, c12]) rfl (reads_field 1 1 12 Tryz.underlying34 rfl rfl rfl (by kernel_rfl) h)
  obtain ⟨sn, rfl⟩ := reads_int Tryz.underlying3 (reads_field 2 13 1 Tryz.underlying34 rfl rfl rfl (by kernel_rfl) h)
  obtain ⟨wh, rfl⟩ := reads_int Tryz.underlying3 (reads_field 3 14 1 Tryz.underlying34 rfl rfl rfl (by kernel_rfl) h)
  obtain ⟨B, m, mc, ms, rfl, hR, -, hlc, hcm⟩ := reads_slice (sz := 1) eZ (fun _ => True) Tryz.underlying32 (by kernel_rfl) (by decide) (fun cs hl h => by
    obtain ⟨a, rfl⟩ := List.length_eq_one_iff.1 hl
    obtain ⟨z, rfl⟩ := reads_int Tryz.underlying3 h
    exact ⟨z, rfl, trivial⟩) (reads_field 4 15 1 Tryz.underlying34 rfl rfl rfl (by kernel_rfl) h)
  obtain ⟨u, hu, huw⟩ := reads_vec (cs := [c16, c17, c18, c19, c20, c21, c22, c23]) rfl (reads_field 5 16 8 Tryz.underlying34 rfl rfl rfl (by kernel_rfl) h)
  simp only [List.cons.injEq, and_true] at hx hu
  obtain ⟨rfl, rfl, rfl, rfl, rfl, rfl, rfl, rfl, rfl, rfl, rfl, rfl⟩ := hx
  obtain ⟨rfl, rfl, rfl, rfl, rfl, rfl, rfl, rfl⟩ := hu
  exact ⟨⟨kd, x, v, t, T, k, kc, ps, sn, wh, B, m, mc, ms, u⟩, rfl, ⟨⟨hT, hR, hk, Nat.le_trans hlc hcm, fun p h => (hp p h).2.2.2⟩, fun p h => ⟨(hp p h).1, (hp p h).2.1, (hp p h).2.2.1⟩, hxw, hvw, huw⟩⟩
theorem reads_bal {cs : List Value} (hl : cs.length = 2) (h : Reads enc Tryz.prog w base spare held 26 cs) : ∃ b : Int × Int, cs = [.int .u32 b.1, .int .i64 b.2] := by
  obtain ⟨a, b, rfl⟩ := list2 hl
  obtain ⟨x, rfl, -⟩ := reads_u32 Tryz.underlying22 (reads_field 0 0 1 Tryz.underlying26 rfl rfl rfl (by kernel_rfl) h)
  obtain ⟨y, rfl⟩ := reads_int Tryz.underlying3 (reads_field 1 1 1 Tryz.underlying26 rfl rfl rfl (by kernel_rfl) h)
  exact ⟨(x, y), rfl⟩
set_option maxRecDepth 100000 in
theorem reads_msg {cs : List Value} (hl : cs.length = 44) (h : Reads enc Tryz.prog w base spare held 38 cs) : ∃ m : Mm, cs = [.int .i64 m.kd, .int .i64 m.fr, .int .i64 m.dst, .int .u32 m.ep, .int .i64 m.i.1, .int .u32 m.i.2, .int .u32 m.b.1, .int .i64 m.b.2, .int .i64 m.st, .int .u32 m.vv.1, .int .i64 m.vv.2, .int .i64 m.c.kd, .int .i64 m.c.x.1, .int .u32 m.c.x.2, .int .u32 m.c.v.d0, .int .u32 m.c.v.d1, .int .u32 m.c.v.d2, .int .u32 m.c.v.d3, .int .u32 m.c.v.d4, .int .u32 m.c.v.d5, .int .u32 m.c.v.d6, .int .u32 m.c.v.d7, .bool m.c.t, .slice m.c.T m.c.k m.c.kc, .int .i64 m.c.sn, .int .i64 m.c.wh, .slice m.c.B m.c.m m.c.mc, .int .u32 m.c.u.d0, .int .u32 m.c.u.d1, .int .u32 m.c.u.d2, .int .u32 m.c.u.d3, .int .u32 m.c.u.d4, .int .u32 m.c.u.d5, .int .u32 m.c.u.d6, .int .u32 m.c.u.d7, .int .u32 m.an, .int .u32 m.av.d0, .int .u32 m.av.d1, .int .u32 m.av.d2, .int .u32 m.av.d3, .int .u32 m.av.d4, .int .u32 m.av.d5, .int .u32 m.av.d6, .int .u32 m.av.d7] ∧ m.c.Raw w ∧ m.i.wf ∧ m.av.wf := by
  obtain ⟨c0, c1, c2, c3, c4, c5, c6, c7, c8, c9, c10, c11, c12, c13, c14, c15, c16, c17, c18, c19, c20, c21, c22, c23, c24, c25, c26, c27, c28, c29, c30, c31, c32, c33, c34, c35, c36, c37, c38, c39, c40, c41, c42, c43, rfl⟩ := list44 hl
  obtain ⟨kd, rfl⟩ := reads_int Tryz.underlying3 (reads_field 0 0 1 Tryz.underlying38 rfl rfl rfl (by kernel_rfl) h)
  obtain ⟨fr, rfl⟩ := reads_int Tryz.underlying3 (reads_field 1 1 1 Tryz.underlying38 rfl rfl rfl (by kernel_rfl) h)
  obtain ⟨dst, rfl⟩ := reads_int Tryz.underlying3 (reads_field 2 2 1 Tryz.underlying38 rfl rfl rfl (by kernel_rfl) h)
  obtain ⟨ep, rfl, -⟩ := reads_u32 Tryz.underlying22 (reads_field 3 3 1 Tryz.underlying38 rfl rfl rfl (by kernel_rfl) h)
  obtain ⟨i, hi, hiw⟩ := reads_id (cs := [c4, c5]) rfl (reads_field 4 4 2 Tryz.underlying38 rfl rfl rfl (by kernel_rfl) h)
  obtain ⟨b, hb⟩ := reads_bal (cs := [c6, c7]) rfl (reads_field 5 6 2 Tryz.underlying38 rfl rfl rfl (by kernel_rfl) h)
  obtain ⟨st, rfl⟩ := reads_int Tryz.underlying3 (reads_field 6 8 1 Tryz.underlying38 rfl rfl rfl (by kernel_rfl) h)
  obtain ⟨vv, hv⟩ := reads_bal (cs := [c9, c10]) rfl (reads_field 7 9 2 Tryz.underlying38 rfl rfl rfl (by kernel_rfl) h)
  obtain ⟨c, hc, hcr⟩ := reads_cmd (cs := [c11, c12, c13, c14, c15, c16, c17, c18, c19, c20, c21, c22, c23, c24, c25, c26, c27, c28, c29, c30, c31, c32, c33, c34]) rfl (reads_field 8 11 24 Tryz.underlying38 rfl rfl rfl (by kernel_rfl) h)
  have hatt := reads_field 9 35 9 Tryz.underlying38 rfl rfl rfl (by kernel_rfl) h
  obtain ⟨an, rfl, -⟩ := reads_u32 Tryz.underlying22 (reads_field 0 0 1 Tryz.underlying36 rfl rfl rfl (by kernel_rfl) hatt)
  obtain ⟨av, ha, haw⟩ := reads_vec (cs := [c36, c37, c38, c39, c40, c41, c42, c43]) rfl (reads_field 1 1 8 Tryz.underlying36 rfl rfl rfl (by kernel_rfl) hatt)
  simp only [Im.enc, List.cons.injEq, and_true] at hi hb hv hc ha
  obtain ⟨rfl, rfl⟩ := hi
  obtain ⟨rfl, rfl⟩ := hb
  obtain ⟨rfl, rfl⟩ := hv
  obtain ⟨rfl, rfl, rfl, rfl, rfl, rfl, rfl, rfl, rfl, rfl, rfl, rfl, rfl, rfl, rfl, rfl, rfl, rfl, rfl, rfl, rfl, rfl, rfl, rfl⟩ := hc
  obtain ⟨rfl, rfl, rfl, rfl, rfl, rfl, rfl, rfl⟩ := ha
  exact ⟨⟨kd, fr, dst, ep, i, b, st, vv, c, an, av⟩, rfl, hcr, hiw, haw⟩
set_option maxRecDepth 100000 in
theorem open_cmd {r : Reach} {b0 : Nat} {v : Value} {d : DataW H} {p : List MemPlace} (hv : Value.okWide Tryz.prog w r b0 34 v) (h : DataW.Trod enc Tryz.prog w base spare held 34 v d p) : ∃ c : Cm, v = .agg #[.int .i64 c.kd, .int .i64 c.x.1, .int .u32 c.x.2, .int .u32 c.v.d0, .int .u32 c.v.d1, .int .u32 c.v.d2, .int .u32 c.v.d3, .int .u32 c.v.d4, .int .u32 c.v.d5, .int .u32 c.v.d6, .int .u32 c.v.d7, .bool c.t, .slice c.T c.k c.kc, .int .i64 c.sn, .int .i64 c.wh, .slice c.B c.m c.mc, .int .u32 c.u.d0, .int .u32 c.u.d1, .int .u32 c.u.d2, .int .u32 c.u.d3, .int .u32 c.u.d4, .int .u32 c.u.d5, .int .u32 c.u.d6, .int .u32 c.u.d7] ∧ c.Raw w := by
  obtain ⟨cs, rfl, hsz⟩ := okWide_struct Tryz.underlying34 hv
  obtain ⟨c, hc, h1⟩ := reads_cmd (cs := cs.toList) (by rw [Array.length_toList, hsz]; kernel_rfl) (reads_of h)
  exact ⟨c, by rw [show cs = [.int .i64 c.kd, .int .i64 c.x.1, .int .u32 c.x.2, .int .u32 c.v.d0, .int .u32 c.v.d1, .int .u32 c.v.d2, .int .u32 c.v.d3, .int .u32 c.v.d4, .int .u32 c.v.d5, .int .u32 c.v.d6, .int .u32 c.v.d7, .bool c.t, .slice c.T c.k c.kc, .int .i64 c.sn, .int .i64 c.wh, .slice c.B c.m c.mc, .int .u32 c.u.d0, .int .u32 c.u.d1, .int .u32 c.u.d2, .int .u32 c.u.d3, .int .u32 c.u.d4, .int .u32 c.u.d5, .int .u32 c.u.d6, .int .u32 c.u.d7].toArray by rw [← hc]], h1⟩
set_option maxRecDepth 100000 in
theorem open_msg {r : Reach} {b0 : Nat} {v : Value} {d : DataW H} {p : List MemPlace} (hv : Value.okWide Tryz.prog w r b0 38 v) (h : DataW.Trod enc Tryz.prog w base spare held 38 v d p) : ∃ m : Mm, v = .agg #[.int .i64 m.kd, .int .i64 m.fr, .int .i64 m.dst, .int .u32 m.ep, .int .i64 m.i.1, .int .u32 m.i.2, .int .u32 m.b.1, .int .i64 m.b.2, .int .i64 m.st, .int .u32 m.vv.1, .int .i64 m.vv.2, .int .i64 m.c.kd, .int .i64 m.c.x.1, .int .u32 m.c.x.2, .int .u32 m.c.v.d0, .int .u32 m.c.v.d1, .int .u32 m.c.v.d2, .int .u32 m.c.v.d3, .int .u32 m.c.v.d4, .int .u32 m.c.v.d5, .int .u32 m.c.v.d6, .int .u32 m.c.v.d7, .bool m.c.t, .slice m.c.T m.c.k m.c.kc, .int .i64 m.c.sn, .int .i64 m.c.wh, .slice m.c.B m.c.m m.c.mc, .int .u32 m.c.u.d0, .int .u32 m.c.u.d1, .int .u32 m.c.u.d2, .int .u32 m.c.u.d3, .int .u32 m.c.u.d4, .int .u32 m.c.u.d5, .int .u32 m.c.u.d6, .int .u32 m.c.u.d7, .int .u32 m.an, .int .u32 m.av.d0, .int .u32 m.av.d1, .int .u32 m.av.d2, .int .u32 m.av.d3, .int .u32 m.av.d4, .int .u32 m.av.d5, .int .u32 m.av.d6, .int .u32 m.av.d7] ∧ m.c.Raw w ∧ m.i.wf ∧ m.av.wf := by
  obtain ⟨cs, rfl, hsz⟩ := okWide_struct Tryz.underlying38 hv
  obtain ⟨m, hm, h1⟩ := reads_msg (cs := cs.toList) (by rw [Array.length_toList, hsz]; kernel_rfl) (reads_of h)
  exact ⟨m, by rw [show cs = [.int .i64 m.kd, .int .i64 m.fr, .int .i64 m.dst, .int .u32 m.ep, .int .i64 m.i.1, .int .u32 m.i.2, .int .u32 m.b.1, .int .i64 m.b.2, .int .i64 m.st, .int .u32 m.vv.1, .int .i64 m.vv.2, .int .i64 m.c.kd, .int .i64 m.c.x.1, .int .u32 m.c.x.2, .int .u32 m.c.v.d0, .int .u32 m.c.v.d1, .int .u32 m.c.v.d2, .int .u32 m.c.v.d3, .int .u32 m.c.v.d4, .int .u32 m.c.v.d5, .int .u32 m.c.v.d6, .int .u32 m.c.v.d7, .bool m.c.t, .slice m.c.T m.c.k m.c.kc, .int .i64 m.c.sn, .int .i64 m.c.wh, .slice m.c.B m.c.m m.c.mc, .int .u32 m.c.u.d0, .int .u32 m.c.u.d1, .int .u32 m.c.u.d2, .int .u32 m.c.u.d3, .int .u32 m.c.u.d4, .int .u32 m.c.u.d5, .int .u32 m.c.u.d6, .int .u32 m.c.u.d7, .int .u32 m.an, .int .u32 m.av.d0, .int .u32 m.av.d1, .int .u32 m.av.d2, .int .u32 m.av.d3, .int .u32 m.av.d4, .int .u32 m.av.d5, .int .u32 m.av.d6, .int .u32 m.av.d7].toArray by rw [← hm]], h1⟩
end
end Go.Proofs.YtfhandglpjnonaaGreatDoor
