/- The statement ClashTells, walked. -/
import Derived.Test.YtgjiaipheohmoaaClX
namespace Go.Proofs.Ytgjiaipheohmoaa
open Go.RowKit

theorem infoTx : (Try.prog.info? 37).map (fun i => (i.zero, i.size, i.bytes)) = some (some (.agg #[.int .i64 0, .int .u32 0, .int .u32 0, .int .u32 0, .int .u32 0, .int .u32 0, .int .u32 0, .int .u32 0, .int .u32 0, .int .u32 0, .bool false, .slice none 0 0]), 12, 80) := by kernel_rfl
theorem eTx : ElemInfo Try.prog 34 37 12 80 := by
  obtain ⟨i, hi, h0, h1, h2⟩ := info_parts infoTx
  exact ⟨Try.underlying34, ⟨i, _, hi, h0, h1, h2, rfl⟩, by decide⟩

/-- What a transaction says of its parts. -/
def Txm.core (t : Txm) : List (ByteArray × Int × ByteArray × Int × Int × Int × Int × Int × Int × List Tg) := t.ps.map Pt.core
theorem ptB_core {p q p' q' : Pt} (h : p.core = p'.core) (h' : q.core = q'.core) : ptB p q = ptB p' q' := by
  simp only [Pt.core, Prod.mk.injEq] at h h'
  unfold ptB
  rw [h.1, h.2.1, h.2.2.1, h'.1, h'.2.1, h'.2.2.1]
theorem txsB_core {ps ps' qs qs' : List Pt} (h : ps.map Pt.core = ps'.map Pt.core) (h' : qs.map Pt.core = qs'.map Pt.core) : txsB ps qs = txsB ps' qs' := by
  have h1 : ∀ {p p' : Pt} {qs qs' : List Pt}, p.core = p'.core → qs.map Pt.core = qs'.map Pt.core → qs.any (fun q => ptB p q) = qs'.any (fun q => ptB p' q) := by
    intro p p' qs
    induction qs with
    | nil => intro qs' hp hq; cases qs' with | nil => rfl | cons => simp at hq
    | cons q qs ih =>
      intro qs' hp hq
      cases qs' with
      | nil => simp at hq
      | cons q' qs' =>
        simp only [List.map_cons, List.cons.injEq] at hq
        simp only [List.any_cons]
        rw [ptB_core hp hq.1, ih hp hq.2]
  unfold txsB
  induction ps generalizing ps' with
  | nil => cases ps' with | nil => rfl | cons => simp at h
  | cons p ps ih =>
    cases ps' with
    | nil => simp at h
    | cons p' ps' =>
      simp only [List.map_cons, List.cons.injEq] at h
      simp only [List.any_cons]
      rw [h1 h.1 h', ih h.2]
theorem idxB_core {ps ps' : List Pt} {ms us : List Txm} (h : ps.map Pt.core = ps'.map Pt.core) (h' : ms.map Txm.core = us.map Txm.core) : idxB (fun u => txsB ps u.ps) ms = idxB (fun u => txsB ps' u.ps) us := by
  have : ms.findIdx? (fun u => txsB ps u.ps) = us.findIdx? (fun u => txsB ps' u.ps) := by
    induction ms generalizing us with
    | nil => cases us with | nil => rfl | cons => simp at h'
    | cons m ms ih =>
      cases us with
      | nil => simp at h'
      | cons u us =>
        simp only [List.map_cons, List.cons.injEq] at h'
        simp only [List.findIdx?_cons]
        rw [txsB_core h (show m.ps.map Pt.core = u.ps.map Pt.core from h'.1), ih h'.2]
  simp only [idxB, this]

/-- Transactions that the call itself made. -/
def OwT (w : World) (base : Nat) (A : Option Addr) (n c : Nat) (ms : List Txm) : Prop :=
  Ow w base 37 12 (.slice A n c) (ms.map Txm.enc) ∧ ∀ m ∈ ms, OwP w base m.A m.n m.c m.ps
theorem OwT.rdt {w : World} {base : Nat} {A : Option Addr} {n c : Nat} {ms : List Txm} (h : OwT w base A n c ms) : RdT w w.heap.size A n ms :=
  ⟨h.1.rd.1, fun m hm => ⟨(h.2 m hm).rdp, (h.2 m hm).max⟩⟩

set_option maxRecDepth 100000 in
set_option maxHeartbeats 2000000 in
theorem tells_any (a b : OpM) (t : Txm) (A : Option Addr) (n c : Nat) (us : List Txm) (w : World) (ht : RdP w w.heap.size t.A t.n t.ps) (hu : RdT w w.heap.size A n us) (htn : t.n ≤ maxLen) (hn : n ≤ maxLen) :
    Calls Try.prog 3 #[.agg #[.int .i64 a.act, .string a.name, .int .i64 a.val], .agg #[.int .i64 b.act, .string b.name, .int .i64 b.val], .agg #[.int .i64 t.h.o, .int .u32 t.h.s, .int .u32 t.h.d0, .int .u32 t.h.d1, .int .u32 t.h.d2, .int .u32 t.h.d3, .int .u32 t.h.d4, .int .u32 t.h.d5, .int .u32 t.h.d6, .int .u32 t.h.d7, .bool t.h.thin, .slice t.A t.n t.c], .slice A n c] w fun e w' => e = .returned (.bool true) ∧ Below w.heap.size w w' := by
  have hW : Below w.heap.size w (((w.alloc (.cells #[.int .i64 a.act, .string a.name, .int .i64 a.val] 23)).alloc (.cells #[.int .i64 b.act, .string b.name, .int .i64 b.val] 23)).alloc (.cells #[.int .i64 t.h.o, .int .u32 t.h.s, .int .u32 t.h.d0, .int .u32 t.h.d1, .int .u32 t.h.d2, .int .u32 t.h.d3, .int .u32 t.h.d4, .int .u32 t.h.d5, .int .u32 t.h.d6, .int .u32 t.h.d7, .bool t.h.thin, .slice t.A t.n t.c] 31)) := ((((Below.refl _ w).alloc (by first | (simp; done) | (simp; omega) | omega) _).alloc (by first | (simp; done) | (simp; omega) | omega) _).alloc (by first | (simp; done) | (simp; omega) | omega) _)
  go_enter Try.func3, Try.ntmps3
  go_wp2_with fail
  refine (great15_any _ _ _ _ _ _ _ _ _ _ _ _ _ _ t.ps _ ((ht.below hW).more (by simp; omega)).1 htn).mono ?_
  rintro e w1 ⟨rfl, hb1⟩
  have hb : Below (w.heap.size + 3) (((w.alloc (.cells #[.int .i64 a.act, .string a.name, .int .i64 a.val] 23)).alloc (.cells #[.int .i64 b.act, .string b.name, .int .i64 b.val] 23)).alloc (.cells #[.int .i64 t.h.o, .int .u32 t.h.s, .int .u32 t.h.d0, .int .u32 t.h.d1, .int .u32 t.h.d2, .int .u32 t.h.d3, .int .u32 t.h.d4, .int .u32 t.h.d5, .int .u32 t.h.d6, .int .u32 t.h.d7, .bool t.h.thin, .slice t.A t.n t.c] 31)) w1 := hb1.mono (by first | (simp; done) | (simp; omega) | omega)
  have hc1 := (bcell hb).1
  clear hb1
  have hz1 : w.heap.size + 3 ≤ w1.heap.size := by have := hb.size; simp at this; omega
  have hB0 : w.heap.size < w.heap.size + 3 := by omega
  have hB1 : w.heap.size + 1 < w.heap.size + 3 := by omega
  have hB2 : w.heap.size + 1 + 1 < w.heap.size + 3 := by omega
  have hWb : Below w.heap.size w w1 := hW.trans (hb.mono (by omega))
  generalize hg1 : gr15 t.ps = r1
  cases r1
  case true =>
    clear hg1
    go_wp2
    go_ret
    exact ⟨rfl, hWb⟩
  obtain ⟨htl, htg⟩ := gr15_false hg1
  clear hg1
  by_cases h30 : (30 : Int) < (n : Int)
  · go_wp2
    go_ret
    exact ⟨rfl, hWb⟩
  have hd30 : decide ((30 : Int) < (n : Int)) = false := by simpa using h30
  have hn30 : n ≤ 30 := by omega
  clear h30
  by_cases hna : 500 < (a.name.size : Int)
  · go_wp2
    go_ret
    exact ⟨rfl, hWb⟩
  have hda : decide (500 < (a.name.size : Int)) = false := by simpa using hna
  by_cases hnb : 500 < (b.name.size : Int)
  · go_wp2
    go_ret
    exact ⟨rfl, hWb⟩
  have hdb : decide (500 < (b.name.size : Int)) = false := by simpa using hnb
  go_upto_block 0 with fail
  clear hc1
  have hmS : us.length = n := by simpa using hu.1.len
  go_cut [9] (fun s9 wx => ∃ A' c' ms, s9 = .slice A' n c' ∧ OwT wx (w.heap.size + 3) A' n c' ms ∧ ms.map Txm.core = us.map Txm.core ∧ Below (w.heap.size + 3) (((w.alloc (.cells #[.int .i64 a.act, .string a.name, .int .i64 a.val] 23)).alloc (.cells #[.int .i64 b.act, .string b.name, .int .i64 b.val] 23)).alloc (.cells #[.int .i64 t.h.o, .int .u32 t.h.s, .int .u32 t.h.d0, .int .u32 t.h.d1, .int .u32 t.h.d2, .int .u32 t.h.d3, .int .u32 t.h.d4, .int .u32 t.h.d5, .int .u32 t.h.d6, .int .u32 t.h.d7, .bool t.h.thin, .slice t.A t.n t.c] 31)) wx)
  case first =>
    go_wp2_with fail
    go_loopg [9, 10] (n + 1) (fun g m i wr => ∃ (k : Nat) (A' : Option Addr) (c' : Nat) (ms : List Txm), k ≤ n ∧ g = n + 1 - k ∧ i = .int .i64 k ∧ m = .slice A' k c' ∧ OwT wr (w.heap.size + 3) A' k c' ms ∧
      ms.map Txm.core = (us.take k).map Txm.core ∧ Below (w.heap.size + 3) (((w.alloc (.cells #[.int .i64 a.act, .string a.name, .int .i64 a.val] 23)).alloc (.cells #[.int .i64 b.act, .string b.name, .int .i64 b.val] 23)).alloc (.cells #[.int .i64 t.h.o, .int .u32 t.h.s, .int .u32 t.h.d0, .int .u32 t.h.d1, .int .u32 t.h.d2, .int .u32 t.h.d3, .int .u32 t.h.d4, .int .u32 t.h.d5, .int .u32 t.h.d6, .int .u32 t.h.d7, .bool t.h.thin, .slice t.A t.n t.c] 31)) wr)
    case atStart => exact ⟨0, none, 0, [], Nat.zero_le _, rfl, rfl, rfl, ⟨Ow.nil_ _ _ _ _, by simp⟩, rfl, hb⟩
    case round =>
      obtain ⟨k, A', c', ms, hk, rfl, rfl, rfl, hown, hms, hbr⟩ := hrel
      have hml : ms.length = k := by simpa using hown.1.rd.2.1
      have hz := hbr.size
      simp only [World.size_alloc] at hz
      have hWr : Below w.heap.size w wr := hW.trans (hbr.mono (by omega))
      by_cases hlt : k < n
      · obtain ⟨bA, oA, u, rfl, hbA, hp, hcp⟩ := hu.1.at_ hlt
        have hbA2 : bA < wr.heap.size := by omega
        have p0 := (hWr.cell (p := ⟨bA, _, none⟩) hbA).trans (hcp 0 _ rfl)
        have p1 := (hWr.cell (p := ⟨bA, _, none⟩) hbA).trans (hcp 1 _ rfl)
        have p2 := (hWr.cell (p := ⟨bA, _, none⟩) hbA).trans (hcp 2 _ rfl)
        have p3 := (hWr.cell (p := ⟨bA, _, none⟩) hbA).trans (hcp 3 _ rfl)
        have p4 := (hWr.cell (p := ⟨bA, _, none⟩) hbA).trans (hcp 4 _ rfl)
        have p5 := (hWr.cell (p := ⟨bA, _, none⟩) hbA).trans (hcp 5 _ rfl)
        have p6 := (hWr.cell (p := ⟨bA, _, none⟩) hbA).trans (hcp 6 _ rfl)
        have p7 := (hWr.cell (p := ⟨bA, _, none⟩) hbA).trans (hcp 7 _ rfl)
        have p8 := (hWr.cell (p := ⟨bA, _, none⟩) hbA).trans (hcp 8 _ rfl)
        have p9 := (hWr.cell (p := ⟨bA, _, none⟩) hbA).trans (hcp 9 _ rfl)
        have p10 := (hWr.cell (p := ⟨bA, _, none⟩) hbA).trans (hcp 10 _ rfl)
        have p11 := (hWr.cell (p := ⟨bA, _, none⟩) hbA).trans (hcp 11 _ rfl)
        rw [Nat.add_zero] at p0
        clear hcp
        have hum := hu.2 u (List.mem_of_getElem? hp)
        have hmsH := Lib.hid hms
        have hpH := Lib.hid hp
        clear hms hp
        go_wp2_with fail
        refine (great15_any _ _ _ _ _ _ _ _ _ _ _ _ _ _ u.ps _ ((hum.1.below hWr).more (by omega)).1 hum.2).mono ?_
        rintro e w2 ⟨rfl, hb2⟩
        have hbr2 : Below (w.heap.size + 3) (((w.alloc (.cells #[.int .i64 a.act, .string a.name, .int .i64 a.val] 23)).alloc (.cells #[.int .i64 b.act, .string b.name, .int .i64 b.val] 23)).alloc (.cells #[.int .i64 t.h.o, .int .u32 t.h.s, .int .u32 t.h.d0, .int .u32 t.h.d1, .int .u32 t.h.d2, .int .u32 t.h.d3, .int .u32 t.h.d4, .int .u32 t.h.d5, .int .u32 t.h.d6, .int .u32 t.h.d7, .bool t.h.thin, .slice t.A t.n t.c] 31)) w2 := hbr.trans (hb2.mono hz)
        replace p0 := (hb2.cell (p := ⟨bA, _, none⟩) hbA2).trans p0
        replace p1 := (hb2.cell (p := ⟨bA, _, none⟩) hbA2).trans p1
        replace p2 := (hb2.cell (p := ⟨bA, _, none⟩) hbA2).trans p2
        replace p3 := (hb2.cell (p := ⟨bA, _, none⟩) hbA2).trans p3
        replace p4 := (hb2.cell (p := ⟨bA, _, none⟩) hbA2).trans p4
        replace p5 := (hb2.cell (p := ⟨bA, _, none⟩) hbA2).trans p5
        replace p6 := (hb2.cell (p := ⟨bA, _, none⟩) hbA2).trans p6
        replace p7 := (hb2.cell (p := ⟨bA, _, none⟩) hbA2).trans p7
        replace p8 := (hb2.cell (p := ⟨bA, _, none⟩) hbA2).trans p8
        replace p9 := (hb2.cell (p := ⟨bA, _, none⟩) hbA2).trans p9
        replace p10 := (hb2.cell (p := ⟨bA, _, none⟩) hbA2).trans p10
        replace p11 := (hb2.cell (p := ⟨bA, _, none⟩) hbA2).trans p11
        have hz2 : w.heap.size + 3 ≤ w2.heap.size := Nat.le_trans hz hb2.size
        generalize hg2 : gr15 u.ps = r2
        cases r2
        case true =>
          clear hg2
          go_wp2
          go_ret
          exact ⟨rfl, hWr.trans (hb2.mono (by omega))⟩
        obtain ⟨hul, hug⟩ := gr15_false hg2
        clear hg2
        go_wp2_with fail
        refine (to_any u.h u.A u.n u.c u.ps w2 ((hum.1.below (hWr.trans (hb2.mono (by omega)))).more (by omega)) (by have := hum.1.1.len; omega) (fun p hp => by have := hug p hp; omega)).mono ?_
        rintro e w3 ⟨A1, c1, qs, rfl, hq, hcore, hb3⟩
        have hbr3 : Below (w.heap.size + 3) (((w.alloc (.cells #[.int .i64 a.act, .string a.name, .int .i64 a.val] 23)).alloc (.cells #[.int .i64 b.act, .string b.name, .int .i64 b.val] 23)).alloc (.cells #[.int .i64 t.h.o, .int .u32 t.h.s, .int .u32 t.h.d0, .int .u32 t.h.d1, .int .u32 t.h.d2, .int .u32 t.h.d3, .int .u32 t.h.d4, .int .u32 t.h.d5, .int .u32 t.h.d6, .int .u32 t.h.d7, .bool t.h.thin, .slice t.A t.n t.c] 31)) w3 := hbr2.trans (hb3.mono hz2)
        have hz3 : w.heap.size + 3 ≤ w3.heap.size := Nat.le_trans hz2 hb3.size
        have hb23 : Below wr.heap.size wr w3 := hb2.trans (hb3.mono hb2.size)
        have hbO : Below wr.heap.size wr (w3.alloc (.cells #[.int .i64 u.h.o, .int .u32 u.h.s, .int .u32 u.h.d0, .int .u32 u.h.d1, .int .u32 u.h.d2, .int .u32 u.h.d3, .int .u32 u.h.d4, .int .u32 u.h.d5, .int .u32 u.h.d6, .int .u32 u.h.d7, .bool u.h.thin, .slice A1 u.n c1] 37)) := hb23.alloc hb23.size _
        have hlen1 : ∀ y ∈ ([[.int .i64 u.h.o, .int .u32 u.h.s, .int .u32 u.h.d0, .int .u32 u.h.d1, .int .u32 u.h.d2, .int .u32 u.h.d3, .int .u32 u.h.d4, .int .u32 u.h.d5, .int .u32 u.h.d6, .int .u32 u.h.d7, .bool u.h.thin, .slice A1 u.n c1]] : List (List Value)), y.length = 12 := by simp
        have hone1 : ∀ y ∈ ([[.int .i64 u.h.o, .int .u32 u.h.s, .int .u32 u.h.d0, .int .u32 u.h.d1, .int .u32 u.h.d2, .int .u32 u.h.d3, .int .u32 u.h.d4, .int .u32 u.h.d5, .int .u32 u.h.d6, .int .u32 u.h.d7, .bool u.h.thin, .slice A1 u.n c1]] : List (List Value)), ∀ v ∈ y, v.oneCell' = true := by simp [Value.oneCell']
        go_wp2_with (at_builtin; refine wpList_append_rd _ rfl _ _ _ rfl eTx (base := w.heap.size + 3) (v := .slice A' k c') (xs := ms.map Txm.enc) rfl (hown.1.below hbO) rfl (Rd.one' [.int .i64 u.h.o, .int .u32 u.h.s, .int .u32 u.h.d0, .int .u32 u.h.d1, .int .u32 u.h.d2, .int .u32 u.h.d3, .int .u32 u.h.d4, .int .u32 u.h.d5, .int .u32 u.h.d6, .int .u32 u.h.d7, .bool u.h.thin, .slice A1 u.n c1] rfl) hlen1 hone1 (by simp [maxLen]; omega) (by simp; omega) (by simp; omega) ?_; intro A2 n2 c2 w4 hn2 hown2 hg4 hat2; (obtain rfl : n2 = k + 1 := (by rw [hn2]; simp [hml])); clear hn2)
        go_roundg (n + 1 - (k + 1))
        case measure => omega
        case rel =>
          refine ⟨k + 1, A2, c2, ms ++ [⟨u.h, A1, u.n, c1, qs⟩], by omega, rfl, by go_num, rfl, ⟨by rw [List.map_append]; exact hown2, fun m hm => ?_⟩, ?_, ?_⟩
          · refine OwP.other ?_ (hown.1.below hbO) (by decide) (by decide) hg4
            rcases List.mem_append.1 hm with h1 | h1
            · exact (hown.2 m h1).below hbO
            · obtain rfl := List.mem_singleton.1 h1
              exact (hq.base hz2).below ((Below.refl _ w3).alloc (Nat.le_refl _) _)
          · rw [List.map_append, hmsH.out, List.take_add_one, hpH.out]
            simp [Txm.core, hcore]
          · exact (hbr3.alloc hz3 _).grown hg4 (by simp; omega) (fun g e => (hown.1.block g e).1)
      · obtain rfl : k = n := by omega
        rw [List.take_of_length_le (by omega)] at hms
        go_wp2
        go_meet
        exact ⟨A', c', ms, rfl, hown, hms, hbr⟩
  case rest =>
    obtain ⟨A', c', ms, rfl, hown, hms, hbw⟩ := hcut
    have hcz : w.heap.size + 3 ≤ wc.heap.size := by have := hbw.size; simp at this; omega
    have hWc : Below w.heap.size w wc := hW.trans (hbw.mono (by omega))
    have hm0 : w.heap.size < wc.heap.size := by omega
    have hm1 : w.heap.size + 1 < wc.heap.size := by omega
    have hm2 : w.heap.size + 1 + 1 < wc.heap.size := by omega
    have ha : wc.heap[w.heap.size]? = some (.cells #[.int .i64 a.act, .string a.name, .int .i64 a.val] 23 (0, 0)) :=
      (hbw.block _ hB0).trans (heap_old _ (by first | (simp; done) | (simp; omega) | omega) (heap_old _ (by first | (simp; done) | (simp; omega) | omega) (heap_at w _ rfl)))
    have hb' : wc.heap[w.heap.size + 1]? = some (.cells #[.int .i64 b.act, .string b.name, .int .i64 b.val] 23 (0, 0)) :=
      (hbw.block _ hB1).trans (heap_old _ (by first | (simp; done) | (simp; omega) | omega) (heap_at _ _ (by simp)))
    have ht' : wc.heap[w.heap.size + 1 + 1]? = some (.cells #[.int .i64 t.h.o, .int .u32 t.h.s, .int .u32 t.h.d0, .int .u32 t.h.d1, .int .u32 t.h.d2, .int .u32 t.h.d3, .int .u32 t.h.d4, .int .u32 t.h.d5, .int .u32 t.h.d6, .int .u32 t.h.d7, .bool t.h.thin, .slice t.A t.n t.c] 31 (0, 0)) :=
      (hbw.block _ hB2).trans (heap_at _ _ (by simp))
    have a0 := blk_cell ha 0
    have a1 := blk_cell ha 1
    have a2 := blk_cell ha 2
    have b0 := blk_cell hb' 0
    have b1 := blk_cell hb' 1
    have b2 := blk_cell hb' 2
    have t0 := blk_cell ht' 0
    have t1 := blk_cell ht' 1
    have t2 := blk_cell ht' 2
    have t3 := blk_cell ht' 3
    have t4 := blk_cell ht' 4
    have t5 := blk_cell ht' 5
    have t6 := blk_cell ht' 6
    have t7 := blk_cell ht' 7
    have t8 := blk_cell ht' 8
    have t9 := blk_cell ht' 9
    have t10 := blk_cell ht' 10
    have t11 := blk_cell ht' 11
    simp at a0 a1 a2 b0 b1 b2 t0 t1 t2 t3 t4 t5 t6 t7 t8 t9 t10 t11
    have hMs := hown.rdt
    clear ha hb' ht' hB0 hB1 hB2 hW hWb hb hbw hown hd30 hda hdb hna hnb
    have htc : RdP wc wc.heap.size t.A t.n t.ps := (ht.below hWc).more (by omega)
    have huc : RdT wc wc.heap.size A n us := (hu.below hWc).more (by omega)
    clear ht hu
    have htl2 := htc.1.len
    go_wp2_with fail
    go_loopg [11] (n + 1) (fun g i wr => ∃ k : Nat, k ≤ n ∧ g = n + 1 - k ∧ i = .int .i64 k ∧ Below wc.heap.size wc wr)
    case atStart => exact ⟨0, Nat.zero_le _, rfl, rfl, Below.refl _ _⟩
    case round =>
      obtain ⟨k, hk, rfl, rfl, hbr⟩ := hrel
      have hz := hbr.size
      have htr : RdP wr wr.heap.size t.A t.n t.ps := (htc.below hbr).more hz
      have hTo := fun w' (hq : KQ wr.heap.size wr w') => to_any t.h t.A t.n t.c t.ps w' ((htr.below hq.1).more hq.1.size) (by omega) (fun p hp => by have := htg p hp; omega)
      have hTo := Lib.hid hTo
      replace t0 := (hbr.cell (p := ⟨w.heap.size + 1 + 1, _, none⟩) hm2).trans t0
      replace t1 := (hbr.cell (p := ⟨w.heap.size + 1 + 1, _, none⟩) hm2).trans t1
      replace t2 := (hbr.cell (p := ⟨w.heap.size + 1 + 1, _, none⟩) hm2).trans t2
      replace t3 := (hbr.cell (p := ⟨w.heap.size + 1 + 1, _, none⟩) hm2).trans t3
      replace t4 := (hbr.cell (p := ⟨w.heap.size + 1 + 1, _, none⟩) hm2).trans t4
      replace t5 := (hbr.cell (p := ⟨w.heap.size + 1 + 1, _, none⟩) hm2).trans t5
      replace t6 := (hbr.cell (p := ⟨w.heap.size + 1 + 1, _, none⟩) hm2).trans t6
      replace t7 := (hbr.cell (p := ⟨w.heap.size + 1 + 1, _, none⟩) hm2).trans t7
      replace t8 := (hbr.cell (p := ⟨w.heap.size + 1 + 1, _, none⟩) hm2).trans t8
      replace t9 := (hbr.cell (p := ⟨w.heap.size + 1 + 1, _, none⟩) hm2).trans t9
      replace t10 := (hbr.cell (p := ⟨w.heap.size + 1 + 1, _, none⟩) hm2).trans t10
      replace t11 := (hbr.cell (p := ⟨w.heap.size + 1 + 1, _, none⟩) hm2).trans t11
      have hv2 : w.heap.size + 1 + 1 < wr.heap.size := by omega
      have hq0 : KQ wr.heap.size wr wr := kq (Below.refl _ _)
      have hWr : Below w.heap.size w wr := hWc.trans (hbr.mono (by omega))
      by_cases hlt : k < n
      · obtain ⟨bA, oA, u, rfl, hbA, hp, hcp⟩ := huc.1.at_ hlt
        obtain ⟨bM, oM, m, rfl, hbM, hpm, hcm⟩ := hMs.1.at_ hlt
        have hum := huc.2 u (List.mem_of_getElem? hp)
        have hmm := hMs.2 m (List.mem_of_getElem? hpm)
        have hcore : m.ps.map Pt.core = u.ps.map Pt.core := by
          have := congrArg (fun l => l[k]?) hms
          simpa [hp, hpm, Txm.core] using this
        have p0 := (hbr.cell (p := ⟨bA, _, none⟩) hbA).trans (hcp 0 _ rfl)
        have p1 := (hbr.cell (p := ⟨bA, _, none⟩) hbA).trans (hcp 1 _ rfl)
        have p2 := (hbr.cell (p := ⟨bA, _, none⟩) hbA).trans (hcp 2 _ rfl)
        have p3 := (hbr.cell (p := ⟨bA, _, none⟩) hbA).trans (hcp 3 _ rfl)
        have p4 := (hbr.cell (p := ⟨bA, _, none⟩) hbA).trans (hcp 4 _ rfl)
        have p5 := (hbr.cell (p := ⟨bA, _, none⟩) hbA).trans (hcp 5 _ rfl)
        have p6 := (hbr.cell (p := ⟨bA, _, none⟩) hbA).trans (hcp 6 _ rfl)
        have p7 := (hbr.cell (p := ⟨bA, _, none⟩) hbA).trans (hcp 7 _ rfl)
        have p8 := (hbr.cell (p := ⟨bA, _, none⟩) hbA).trans (hcp 8 _ rfl)
        have p9 := (hbr.cell (p := ⟨bA, _, none⟩) hbA).trans (hcp 9 _ rfl)
        have p10 := (hbr.cell (p := ⟨bA, _, none⟩) hbA).trans (hcp 10 _ rfl)
        have p11 := (hbr.cell (p := ⟨bA, _, none⟩) hbA).trans (hcp 11 _ rfl)
        have m0 := (hbr.cell (p := ⟨bM, _, none⟩) hbM).trans (hcm 0 _ rfl)
        have m1 := (hbr.cell (p := ⟨bM, _, none⟩) hbM).trans (hcm 1 _ rfl)
        have m2 := (hbr.cell (p := ⟨bM, _, none⟩) hbM).trans (hcm 2 _ rfl)
        have m3 := (hbr.cell (p := ⟨bM, _, none⟩) hbM).trans (hcm 3 _ rfl)
        have m4 := (hbr.cell (p := ⟨bM, _, none⟩) hbM).trans (hcm 4 _ rfl)
        have m5 := (hbr.cell (p := ⟨bM, _, none⟩) hbM).trans (hcm 5 _ rfl)
        have m6 := (hbr.cell (p := ⟨bM, _, none⟩) hbM).trans (hcm 6 _ rfl)
        have m7 := (hbr.cell (p := ⟨bM, _, none⟩) hbM).trans (hcm 7 _ rfl)
        have m8 := (hbr.cell (p := ⟨bM, _, none⟩) hbM).trans (hcm 8 _ rfl)
        have m9 := (hbr.cell (p := ⟨bM, _, none⟩) hbM).trans (hcm 9 _ rfl)
        have m10 := (hbr.cell (p := ⟨bM, _, none⟩) hbM).trans (hcm 10 _ rfl)
        have m11 := (hbr.cell (p := ⟨bM, _, none⟩) hbM).trans (hcm 11 _ rfl)
        rw [Nat.add_zero] at p0 m0
        clear hcp hcm hp hpm
        have hbA2 : bA < wr.heap.size := by omega
        have hbM2 : bM < wr.heap.size := by omega
        have hT1 := fun (w2 : World) (bs : Nat) (A1 : Option Addr) (c1 : Nat) (q1 : List Pt) (hq : KQ wr.heap.size wr w2) (ho : OwP w2 bs A1 t.n c1 q1) (hk : q1.map Pt.core = t.ps.map Pt.core) =>
          (txsB_core hk hcore ▸ txs_any (.int .i64 t.h.o) (.int .u32 t.h.s) (.int .u32 t.h.d0) (.int .u32 t.h.d1) (.int .u32 t.h.d2) (.int .u32 t.h.d3) (.int .u32 t.h.d4) (.int .u32 t.h.d5) (.int .u32 t.h.d6) (.int .u32 t.h.d7) (.bool t.h.thin)
            (.int .i64 m.h.o) (.int .u32 m.h.s) (.int .u32 m.h.d0) (.int .u32 m.h.d1) (.int .u32 m.h.d2) (.int .u32 m.h.d3) (.int .u32 m.h.d4) (.int .u32 m.h.d5) (.int .u32 m.h.d6) (.int .u32 m.h.d7) (.bool m.h.thin) A1 m.A t.n m.n c1 m.c q1 m.ps w2
            ho.rdp.1 (((hmm.1.below (hbr.trans (hq.1.mono hz))).more (Nat.le_trans hz hq.1.size)).1) htn hmm.2 :
            Calls Try.prog 7 #[.agg #[.int .i64 t.h.o, .int .u32 t.h.s, .int .u32 t.h.d0, .int .u32 t.h.d1, .int .u32 t.h.d2, .int .u32 t.h.d3, .int .u32 t.h.d4, .int .u32 t.h.d5, .int .u32 t.h.d6, .int .u32 t.h.d7, .bool t.h.thin, .slice A1 t.n c1], .agg #[.int .i64 m.h.o, .int .u32 m.h.s, .int .u32 m.h.d0, .int .u32 m.h.d1, .int .u32 m.h.d2, .int .u32 m.h.d3, .int .u32 m.h.d4, .int .u32 m.h.d5, .int .u32 m.h.d6, .int .u32 m.h.d7, .bool m.h.thin, .slice m.A m.n m.c]] w2 fun e w' => e = .returned (.bool (txsB t.ps u.ps)) ∧ Below w2.heap.size w2 w')
        have hT2 := fun w' (hq : KQ wr.heap.size wr w') => rtxs_any (.int .i64 t.h.o) (.int .u32 t.h.s) (.int .u32 t.h.d0) (.int .u32 t.h.d1) (.int .u32 t.h.d2) (.int .u32 t.h.d3) (.int .u32 t.h.d4) (.int .u32 t.h.d5) (.int .u32 t.h.d6) (.int .u32 t.h.d7) (.bool t.h.thin)
          (.int .i64 u.h.o) (.int .u32 u.h.s) (.int .u32 u.h.d0) (.int .u32 u.h.d1) (.int .u32 u.h.d2) (.int .u32 u.h.d3) (.int .u32 u.h.d4) (.int .u32 u.h.d5) (.int .u32 u.h.d6) (.int .u32 u.h.d7) (.bool u.h.thin) t.A u.A t.n u.n t.c u.c t.ps u.ps w'
          ((htr.below hq.1).more hq.1.size).1 (((hum.1.below (hbr.trans (hq.1.mono hz))).more (Nat.le_trans hz hq.1.size)).1) htn hum.2
        generalize txsB t.ps u.ps = r at hT1 hT2
        have hT1 := Lib.hid hT1
        have hT2 := Lib.hid hT2
        clear hum hmm hcore hms hMs huc htr htc
        go_wp2
        go_region_held3 (fun w' => KQ wr.heap.size wr w') (first
      | with_reducible exact kq_call (by assumption) (by simp) (by assumption)
      | with_reducible exact kq_grown (by assumption) (by simp) (by assumption) (by simp [Value.ownBlock])
      | ((with_reducible refine kq ?_); (repeat (first | (with_reducible exact Below.refl _ _) | (with_reducible refine Below.drew ?_) | (with_reducible refine Below.alloc ?_ (by simp) _) | (with_reducible refine Below.setCell ?_ (by simp) _) | (with_reducible exact (by assumption : KQ _ _ _).1))); done))
          (first
            | (go_at_call 6; (with_reducible refine (hTo.out _ (by with_reducible assumption)).mono ?_); rintro e w2 ⟨A1, c1, q1, rfl, ho1, hk1, hb1⟩)
            | (go_at_call 7; (with_reducible refine (hT1.out _ _ _ _ _ (by with_reducible assumption) ho1 hk1).mono ?_); rintro e w2 ⟨rfl, hb1⟩)
            | (go_at_call 8; (with_reducible refine (hT2.out _ (by with_reducible assumption)).mono ?_); rintro e w2 ⟨rfl, hb1⟩))
        have hF : KQ wr.heap.size wr w2 := by with_reducible assumption
        have hG : Below wc.heap.size wc w2 := hbr.trans (hF.1.mono hz)
        clear hF
        go_wp2
        go_roundg (n + 1 - (k + 1))
        case measure => omega
        case rel => exact ⟨k + 1, by omega, rfl, by go_num, hG⟩
      · have hv0 : w.heap.size < wr.heap.size := by omega
        replace a0 := (hbr.cell (p := ⟨w.heap.size, _, none⟩) hm0).trans a0
        replace a1 := (hbr.cell (p := ⟨w.heap.size, _, none⟩) hm0).trans a1
        replace a2 := (hbr.cell (p := ⟨w.heap.size, _, none⟩) hm0).trans a2
        replace b0 := (hbr.cell (p := ⟨w.heap.size + 1, _, none⟩) hm1).trans b0
        replace b1 := (hbr.cell (p := ⟨w.heap.size + 1, _, none⟩) hm1).trans b1
        replace b2 := (hbr.cell (p := ⟨w.heap.size + 1, _, none⟩) hm1).trans b2
        have hv1 : w.heap.size + 1 < wr.heap.size := by omega
        have hO1 := fun w' => ops_any a.act a.val b.act b.val a.name b.name w'
        have hO2 := fun w' => rops_any a.act a.val b.act b.val a.name b.name w'
        generalize opsB a.act b.act (a.name.toList == b.name.toList) = rO at hO1 hO2
        have hF1 := fun (w2 : World) (bs : Nat) (A1 : Option Addr) (c1 : Nat) (q1 : List Pt) (hq : KQ wr.heap.size wr w2) (ho : OwP w2 bs A1 t.n c1 q1) (hk : q1.map Pt.core = t.ps.map Pt.core) =>
          (idxB_core hk hms ▸ first_any ⟨t.h, A1, t.n, c1, q1⟩ A' n c' ms w2 ho.rdp ((hMs.below (hbr.trans (hq.1.mono hz))).more (Nat.le_trans hz hq.1.size)) htn hn :
            Calls Try.prog 12 #[.agg #[.int .i64 t.h.o, .int .u32 t.h.s, .int .u32 t.h.d0, .int .u32 t.h.d1, .int .u32 t.h.d2, .int .u32 t.h.d3, .int .u32 t.h.d4, .int .u32 t.h.d5, .int .u32 t.h.d6, .int .u32 t.h.d7, .bool t.h.thin, .slice A1 t.n c1], .slice A' n c'] w2 fun e w' => e = .returned (.int .i64 (idxB (fun u => txsB t.ps u.ps) us)) ∧ Below w2.heap.size w2 w')
        have hF2 := fun w' (hq : KQ wr.heap.size wr w') => rfirst_any t A n c us w' ((htr.below hq.1).more hq.1.size) ((huc.below (hbr.trans (hq.1.mono hz))).more (Nat.le_trans hz hq.1.size)) htn hn
        generalize idxB (fun u => txsB t.ps u.ps) us = ri at hF1 hF2
        have hO1 := Lib.hid hO1
        have hO2 := Lib.hid hO2
        have hF1 := Lib.hid hF1
        have hF2 := Lib.hid hF2
        clear hms hMs huc htr htc
        go_wp2
        go_region_held3 (fun w' => KQ wr.heap.size wr w') (first
      | with_reducible exact kq_call (by assumption) (by simp) (by assumption)
      | with_reducible exact kq_grown (by assumption) (by simp) (by assumption) (by simp [Value.ownBlock])
      | ((with_reducible refine kq ?_); (repeat (first | (with_reducible exact Below.refl _ _) | (with_reducible refine Below.drew ?_) | (with_reducible refine Below.alloc ?_ (by simp) _) | (with_reducible refine Below.setCell ?_ (by simp) _) | (with_reducible exact (by assumption : KQ _ _ _).1))); done))
          (first
            | (go_at_call 10; refine (op_any _ _ _ _).mono ?_; rintro e w2 ⟨rfl, hb1⟩)
            | (go_at_call 9; (with_reducible refine (hO1.out _).mono ?_); rintro e w2 ⟨rfl, hb1⟩)
            | (go_at_call 11; (with_reducible refine (hO2.out _).mono ?_); rintro e w2 ⟨rfl, hb1⟩)
            | (go_at_call 6; (with_reducible refine (hTo.out _ (by with_reducible assumption)).mono ?_); rintro e w2 ⟨A1, c1, q1, rfl, ho1, hk1, hb1⟩)
            | (go_at_call 12; (with_reducible refine (hF1.out _ _ _ _ _ (by with_reducible assumption) ho1 hk1).mono ?_); rintro e w2 ⟨rfl, hb1⟩)
            | (go_at_call 13; (with_reducible refine (hF2.out _ (by with_reducible assumption)).mono ?_); rintro e w2 ⟨rfl, hb1⟩))
        have hF : KQ wr.heap.size wr w2 := by with_reducible assumption
        have hG : Below w.heap.size w w2 := hWr.trans (hF.1.mono (by omega))
        clear hF
        go_wp2
        go_ret
        exact ⟨rfl, hG⟩
end Go.Proofs.Ytgjiaipheohmoaa
