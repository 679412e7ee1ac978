/- Compact of maps: without word of what was taken away within a vector. Maps of puts: what is wrong with one, by the document. Drop of maps: the map behind some puts' being taken away. -/
import Derived.Test.YtffnpfponnhddaaGreatM21
import Derived.Test.YtffnpfponnhddaaGreatM13
import Derived.Test.YtffnpfponnhddaaGreatN17
import Derived.Test.YtffnpfponnhddaaGreatN11
import Derived.Test.YtffnpfponnhddaaGreatM15
namespace Go.Proofs.YtffnpfponnhddaaGreat
open Go.RowKit

/-- What a function leaves that gives a map and what is wrong. -/
def PostM (w : World) (X : List Pm × List Tm) (er : Int) (e : Ending) (w' : World) : Prop :=
  ∃ A n c B m d, e = .returned (.tuple #[.agg #[.slice A n c, .slice B m d], .int .i64 er]) ∧ RdP w' w'.heap.size A n X.1 ∧ RdT w' w'.heap.size B m X.2 ∧ n ≤ 5000 ∧ m ≤ 9000 ∧ n ≤ c ∧ c ≤ maxLen ∧ m ≤ d ∧ d ≤ maxLen ∧ Below w.heap.size w w'
theorem PostM.nil_ {w w' : World} {er : Int} (hb : Below w.heap.size w w') : PostM w ([], []) er (.returned (.tuple #[.agg #[.slice none 0 0, .slice none 0 0], .int .i64 er])) w' :=
  ⟨none, 0, 0, none, 0, 0, rfl, ⟨rfl, fun h => absurd h (by decide)⟩, ⟨rfl, fun h => absurd h (by decide)⟩, by omega, by omega, by omega, by simp [maxLen], by omega, by simp [maxLen], hb⟩
def compM (xs : List Pm) (gs : List Tm) (v : Vm) : List Pm × List Tm := if mErr xs gs ≠ 0 then ([], []) else (xs, gs.filter fun t => !hasV v t.1)
set_option maxRecDepth 100000 in
set_option maxHeartbeats 1000000 in
theorem mown_any (A : Option Addr) (n c : Nat) (xs : List Pm) (B : Option Addr) (m d : Nat) (gs : List Tm) (w : World) (hA : RdP w w.heap.size A n xs) (hB : RdT w w.heap.size B m gs) (hn : n ≤ 100000) (hm : m ≤ 100000) :
    Calls Tryz.prog 81 #[.agg #[.slice A n c, .slice B m d]] w fun e w' => ∃ A' c' B' d', e = .returned (.agg #[.slice A' n c', .slice B' m d']) ∧ Ow w' w.heap.size 127 7 (.slice A' n c') (xs.map Pm.enc) ∧ Ow w' w.heap.size 45 3 (.slice B' m d') (gs.map Tm.enc) ∧ Below w.heap.size w w' := by
  have hb0 : Below w.heap.size w ((w.alloc (.cells #[.slice A n c, .slice B m d] 62)).alloc (.cells #[.slice none 0 0, .slice none 0 0] 62)) := ((Below.refl _ w).alloc (Nat.le_refl _) _).alloc (by simp) _
  have hbx : ((w.alloc (.cells #[.slice A n c, .slice B m d] 62)).alloc (.cells #[.slice none 0 0, .slice none 0 0] 62)).heap[w.heap.size]? = some (.cells #[.slice A n c, .slice B m d] 62 (0, 0)) := heap_old _ (by simp) (heap_at _ _ rfl)
  have hbr : ((w.alloc (.cells #[.slice A n c, .slice B m d] 62)).alloc (.cells #[.slice none 0 0, .slice none 0 0] 62)).heap[w.heap.size + 1]? = some (.cells #[.slice none 0 0, .slice none 0 0] 62 (0, 0)) := heap_at _ _ (by simp)
  generalize hW : ((w.alloc (.cells #[.slice A n c, .slice B m d] 62)).alloc (.cells #[.slice none 0 0, .slice none 0 0] 62)) = W at hb0 hbx hbr
  have hltx := blk_lt hbx
  have hltr := blk_lt hbr
  have s0 := blk_cell hbx 0
  have s1 := blk_cell hbx 1
  simp at s0 s1
  have hrH := Lib.hid hbr
  have hAr := Lib.hid (fun w' (h : Below w.heap.size w w') => hA.below h)
  have hBr := Lib.hid (fun w' (h : Below w.heap.size w w') => hB.below h)
  clear hbx hbr hA hB
  go_enter Tryz.func81, Tryz.ntmps81
  go_wp2_with fail
  try rw [hW]
  clear hW
  refine wp_region_M (fun w' => KQ (w.heap.size + 1) W w') (fun _ => True) 99 (by kernel_rfl) (kq (Below.refl _ _).drew) trivial ?_
  intro hcl
  have hC : KQ (w.heap.size + 1) W W.drew := kq (Below.refl _ _).drew
  have hE := trivial
  (refine wpM_take (i := 0) (v := ?_) rfl (by kernel_rfl) (by kernel_rfl) (by kernel_rfl) (by decide) (fun _ _ _ h => h) hcl hC (fun _ => hE) (Or.inl ⟨by rfl, ?_⟩) ?_; rotate_left; (· (intro w hSw; (try dsimp only at hSw); go_simp; (try with_reducible rfl))); clear hcl; intro hcl; (try simp only [Act.put, List.getElem_toArray, List.getElem_cons_zero, List.setIfInBounds_toArray, List.set_cons_zero, List.set_cons_succ]))
  (refine wpM_take (i := 1) (v := ?_) rfl (by kernel_rfl) (by kernel_rfl) (by kernel_rfl) (by decide) (fun _ _ _ h => h) hcl hC (fun _ => hE) (Or.inl ⟨by rfl, ?_⟩) ?_; rotate_left; (· (intro w hSw; (try dsimp only at hSw); go_simp; (try with_reducible rfl))); clear hcl; intro hcl; (try simp only [Act.put, List.getElem_toArray, List.getElem_cons_zero, List.getElem_cons_succ, List.setIfInBounds_toArray, List.set_cons_zero, List.set_cons_succ]))
  (refine wpM_take (i := 3) (v := ?_) rfl (by kernel_rfl) (by kernel_rfl) (by kernel_rfl) (by decide) (fun _ _ _ h => h) hcl hC (fun _ => hE) (Or.inl ⟨by rfl, ?_⟩) ?_; rotate_left; (· (intro w hSw; (try dsimp only at hSw); go_simp; (try with_reducible rfl))); clear hcl; intro hcl; (try simp only [Act.put, List.getElem_toArray, List.getElem_cons_zero, List.getElem_cons_succ, List.setIfInBounds_toArray, List.set_cons_zero, List.set_cons_succ]))
  (refine wpM_take (i := 4) (v := ?_) rfl (by kernel_rfl) (by kernel_rfl) (by kernel_rfl) (by decide) (fun _ _ _ h => h) hcl hC (fun _ => hE) (Or.inl ⟨by rfl, ?_⟩) ?_; rotate_left; (· (intro w hSw; (try dsimp only at hSw); go_simp; (try with_reducible rfl))); clear hcl; intro hcl; (try simp only [Act.put, List.getElem_toArray, List.getElem_cons_zero, List.getElem_cons_succ, List.setIfInBounds_toArray, List.set_cons_zero, List.set_cons_succ]))
  refine wpM_only (i := 2) rfl (by kernel_rfl) hcl (fun K hK => ?_)
  go_simp
  have hGd := hb0.drew
  have hzd : w.heap.size + 1 < W.drew.heap.size := hltr
  refine (cloneP_any A n c xs W.drew ((hAr.out _ hGd).more (by simpa using hb0.size)) hn).mono ?_
  rintro e v2 ⟨A2, c2, rfl, o2, hv2⟩
  have hz2 := hv2.size
  have hC2 : KQ (w.heap.size + 1) W v2 := kq_call hC (by omega) hv2
  have hG2 := hGd.trans (hv2.mono (by simpa using hb0.size))
  refine hK.out _ _ hC2 trivial ?_
  clear hK K
  clear hcl
  intro hcl
  (try simp only [Act.put, List.getElem_toArray, List.getElem_cons_zero, List.getElem_cons_succ, List.setIfInBounds_toArray, List.set_cons_zero, List.set_cons_succ])
  clear hC
  have hC := hC2
  refine wpM_only (i := 5) rfl (by kernel_rfl) hcl (fun K hK => ?_)
  go_simp
  refine (cloneT_any B m d gs v2 ((hBr.out _ hG2).more hG2.size) hm).mono ?_
  rintro e v3 ⟨B3, d3, rfl, o3, hv3⟩
  have hz3 := hv3.size
  have hC3 : KQ (w.heap.size + 1) W v3 := kq_call hC (by omega) hv3
  have hG3 := hG2.trans (hv3.mono hG2.size)
  have hrb3 : v3.heap[w.heap.size + 1]? = some (.cells #[.slice none 0 0, .slice none 0 0] 62 (0, 0)) := blk_below (blk_below (heap_drew hrH.out) hv2) hv3
  have o23 := o2.below hv3
  refine hK.out _ _ hC3 trivial ?_
  clear hK K
  clear hcl
  intro hcl
  (try simp only [Act.put, List.getElem_toArray, List.getElem_cons_zero, List.getElem_cons_succ, List.setIfInBounds_toArray, List.set_cons_zero, List.set_cons_succ])
  clear hC
  have hC := hC3
  (refine wpM_take (i := 6) (v := ?_) rfl (by kernel_rfl) (by kernel_rfl) (by kernel_rfl) (by decide) (fun _ _ _ h => h) hcl hC (fun _ => hE) (Or.inl ⟨by rfl, ?_⟩) ?_; rotate_left; (· (intro w hSw; (try dsimp only at hSw); go_simp; (try with_reducible rfl))); clear hcl; intro hcl; (try simp only [Act.put, List.getElem_toArray, List.getElem_cons_zero, List.getElem_cons_succ, List.setIfInBounds_toArray, List.set_cons_zero, List.set_cons_succ]))
  have hlr4 := blk_lt hrb3
  have r0 := blk_cell hrb3 0
  have r1 := blk_cell hrb3 1
  simp at r0 r1
  have hfr4 := blk_frozen hrb3
  refine wpM_only (i := 7) rfl (by kernel_rfl) hcl (fun K hK => ?_)
  go_simp
  have hC5 : KQ (w.heap.size + 1) W ((v3.setCell ⟨w.heap.size + 1, 0, none⟩ (.slice A2 n c2)).setCell ⟨w.heap.size + 1, 1, none⟩ (.slice B3 m d3)) := kq_set (kq_set hC (by dsimp only; omega) _) (by dsimp only; omega) _
  refine hK.out _ _ hC5 trivial ?_
  clear hK K
  clear hcl
  intro hcl
  (try simp only [Act.put, List.getElem_toArray, List.getElem_cons_zero, List.getElem_cons_succ, List.setIfInBounds_toArray, List.set_cons_zero, List.set_cons_succ])
  clear hC
  have hC := hC5
  refine wpM_done (by kernel_rfl) ?_
  clear hcl
  try simp only [Act.put, List.getElem_toArray, List.getElem_cons_zero, List.getElem_cons_succ, List.setIfInBounds_toArray, List.set_cons_zero, List.set_cons_succ]
  go_wp2
  have hzw : W.drew.heap.size = W.heap.size := rfl
  have hzb := hb0.size
  have ha5 := ((o23.set_blk hrb3 (by decide) 0 (.slice A2 n c2)).set_blk (blk_set hrb3 0 _) (by decide) 1 (.slice B3 m d3)).base (base' := w.heap.size) (by omega)
  have hb5 := ((o3.set_blk hrb3 (by decide) 0 (.slice A2 n c2)).set_blk (blk_set hrb3 0 _) (by decide) 1 (.slice B3 m d3)).base (base' := w.heap.size) (by omega)
  exact bodyPost_ret (v := .agg #[.slice A2 n c2, .slice B3 m d3]) (by simp [results, Tryz.results81, go_sem, r0, r1]) rfl ⟨A2, c2, B3, d3, rfl, ha5, hb5, (hG3.setCell (by dsimp only; omega) _).setCell (by dsimp only; omega) _⟩
end Go.Proofs.YtffnpfponnhddaaGreat
namespace Go.Proofs.YtffnpfponnhddaaGreat
open Go.RowKit

theorem mErr_three {xs : List Pm} {gs : List Tm} (hn : ¬ (4096 < xs.length ∨ 4096 < gs.length)) (h1 : (xs.map Prod.fst).all chkT = true) (h2 : gs.all chkT = true) (h : ascT (xs.map Prod.fst) = false ∨ ascT gs = false ∨ badP xs gs = true) : mErr xs gs = 3 := by
  unfold mErr sErr
  rw [List.length_map, if_neg hn, h1, h2, if_neg (by simp)]
  by_cases h3 : (ascT (xs.map Prod.fst) && ascT gs) = false
  · rw [if_pos h3]
  · rw [if_neg h3]
    rw [Bool.not_eq_false, Bool.and_eq_true] at h3
    rcases h with h | h | h
    · rw [h] at h3; exact absurd h3.1 (by decide)
    · rw [h] at h3; exact absurd h3.2 (by decide)
    · rw [h]; rfl
theorem mErr_nil {xs : List Pm} {gs : List Tm} (hn : ¬ (4096 < xs.length ∨ 4096 < gs.length)) (h1 : (xs.map Prod.fst).all chkT = true) (h2 : gs.all chkT = true) (h3 : ascT (xs.map Prod.fst) = true) (h4 : ascT gs = true) (h5 : badP xs gs = false) : mErr xs gs = 0 := by
  unfold mErr sErr
  rw [List.length_map, if_neg hn, h1, h2, if_neg (by simp), h3, h4, if_neg (by simp), h5]; rfl
theorem mErr_two {xs : List Pm} {gs : List Tm} (hn : ¬ (4096 < xs.length ∨ 4096 < gs.length)) (h : (xs.map Prod.fst).all chkT = false ∨ gs.all chkT = false) : mErr xs gs = 2 := by
  unfold mErr sErr
  rw [List.length_map, if_neg hn, if_pos]
  rcases h with h | h <;> rw [h] <;> simp
theorem mErr_eight {xs : List Pm} {gs : List Tm} (hn : 4096 < xs.length ∨ 4096 < gs.length) : mErr xs gs = 8 := by
  unfold mErr sErr
  rw [List.length_map, if_pos hn]

end Go.Proofs.YtffnpfponnhddaaGreat
namespace Go.Proofs.YtffnpfponnhddaaGreat
open Go.RowKit

def dropM (xs : List Pm) (gs l : List Tm) : (List Pm × List Tm) × Int :=
  if mErr xs gs ≠ 0 then (([], []), mErr xs gs) else if 4096 < l.length then (([], []), 8) else if l.any (fun t => !chkT t) then (([], []), 2) else if 4096 < (dropG gs l).length then (([], []), 4)
  else ((xs.filter fun a => !(dropG gs l).contains a.1, dropG gs l), 0)
set_option maxRecDepth 100000 in
theorem mdrop1_any (ob : Nat) (B : Option Addr) (m d : Nat) (gs : List Tm) (a : Pm) (w : World) (hs : w.heap[ob]? = some (.cells #[.slice B m d] 30 (0, 0))) (hB : RdT w w.heap.size B m gs) (hm : m ≤ 1099511627776) (hasc : ascTP gs) :
    Calls Tryz.prog 85 #[.agg #[.int .i64 a.1.1.1, .int .u32 a.1.1.2, .int .i64 a.1.2, .string (bs a.2.1), .int .i64 a.2.2.1, .int .u32 a.2.2.2.1, .int .i64 a.2.2.2.2], .pointer (some ⟨ob, 0, none⟩)] w fun e w' => e = .returned (.bool (gs.contains a.1)) ∧ Below w.heap.size w w' := by
  have hb0 : Below w.heap.size w (w.alloc (.cells #[.int .i64 a.1.1.1, .int .u32 a.1.1.2, .int .i64 a.1.2, .string (bs a.2.1), .int .i64 a.2.2.1, .int .u32 a.2.2.2.1, .int .i64 a.2.2.2.2] 127)) := (Below.refl _ w).alloc (Nat.le_refl _) _
  have hbx : (w.alloc (.cells #[.int .i64 a.1.1.1, .int .u32 a.1.1.2, .int .i64 a.1.2, .string (bs a.2.1), .int .i64 a.2.2.1, .int .u32 a.2.2.2.1, .int .i64 a.2.2.2.2] 127)).heap[w.heap.size]? = some (.cells #[.int .i64 a.1.1.1, .int .u32 a.1.1.2, .int .i64 a.1.2, .string (bs a.2.1), .int .i64 a.2.2.1, .int .u32 a.2.2.2.1, .int .i64 a.2.2.2.2] 127 (0, 0)) := heap_at _ _ rfl
  have hs0 := blk_below hs hb0
  generalize hW : w.alloc (.cells #[.int .i64 a.1.1.1, .int .u32 a.1.1.2, .int .i64 a.1.2, .string (bs a.2.1), .int .i64 a.2.2.1, .int .u32 a.2.2.2.1, .int .i64 a.2.2.2.2] 127) = W at hb0 hbx hs0
  have hltx := blk_lt hbx
  have hlts := blk_lt hs0
  have p0 := blk_cell hbx 0
  have p1 := blk_cell hbx 1
  have p2 := blk_cell hbx 2
  have p3 := blk_cell hbx 3
  have p4 := blk_cell hbx 4
  have p5 := blk_cell hbx 5
  have p6 := blk_cell hbx 6
  have s0 := blk_cell hs0 0
  simp at p0 p1 p2 p3 p4 p5 p6 s0
  have hc := Lib.hid (fun w' (h : Below w.heap.size w w') => mhas_any B m d gs a.1 w' ((hB.below h).more h.size) hm hasc)
  generalize gs.contains a.1 = r at hc ⊢
  clear hbx hs0 hasc
  go_enter Tryz.func85, Tryz.ntmps85
  go_wp2_with fail
  refine (hc.out _ hb0).mono ?_
  rintro e w2 ⟨rfl, hb⟩
  have hG := hb0.trans (hb.mono hb0.size)
  go_wp2
  go_ret
  exact ⟨rfl, hG⟩
set_option maxRecDepth 100000 in
set_option maxHeartbeats 2000000 in
theorem mdrop_any (A : Option Addr) (n c : Nat) (xs : List Pm) (B : Option Addr) (m d : Nat) (gs : List Tm) (C : Option Addr) (k f : Nat) (l : List Tm) (w : World) (hA : RdP w w.heap.size A n xs) (hB : RdT w w.heap.size B m gs) (hC : RdT w w.heap.size C k l) (hn : n ≤ 100000) (hm : m ≤ 100000) (hk : k ≤ 100000) (hx : ∀ a ∈ xs, a.wf) (hg : ∀ t ∈ gs, t.wf) (hlw : ∀ t ∈ l, t.wf) (hl : ∀ a ∈ xs, a.2.1.length ≤ maxLen) :
    Calls Tryz.prog 42 #[.agg #[.slice A n c, .slice B m d], .slice C k f] w (PostM w (dropM xs gs l).1 (dropM xs gs l).2) := by
  have hb0 : Below w.heap.size w ((w.alloc (.cells #[.slice A n c, .slice B m d] 62)).alloc (.cells #[.slice none 0 0, .slice none 0 0] 62)) := ((Below.refl _ w).alloc (Nat.le_refl _) _).alloc (by simp) _
  have hbx : ((w.alloc (.cells #[.slice A n c, .slice B m d] 62)).alloc (.cells #[.slice none 0 0, .slice none 0 0] 62)).heap[w.heap.size]? = some (.cells #[.slice A n c, .slice B m d] 62 (0, 0)) := heap_old _ (by simp) (heap_at _ _ rfl)
  have hbr : ((w.alloc (.cells #[.slice A n c, .slice B m d] 62)).alloc (.cells #[.slice none 0 0, .slice none 0 0] 62)).heap[w.heap.size + 1]? = some (.cells #[.slice none 0 0, .slice none 0 0] 62 (0, 0)) := heap_at _ _ (by simp)
  generalize hW : ((w.alloc (.cells #[.slice A n c, .slice B m d] 62)).alloc (.cells #[.slice none 0 0, .slice none 0 0] 62)) = W at hb0 hbx hbr
  have hbxH := Lib.hid hbx
  have hbrH := Lib.hid hbr
  have hltx := blk_lt hbx
  have hltr := blk_lt hbr
  have s0 := blk_cell hbx 0
  have s1 := blk_cell hbx 1
  have r0 := blk_cell hbr 0
  have r1 := blk_cell hbr 1
  simp at s0 s1 r0 r1
  have hfr := blk_frozen hbr
  have hck := Lib.hid (mcheck_any A n c xs B m d gs W ((hA.below hb0).more hb0.size) ((hB.below hb0).more hb0.size) (by simp [maxLen]; omega) (by simp [maxLen]; omega) hx hg hl)
  have hct := Lib.hid (fun w' (h : Below w.heap.size w w') => cfT_gen 78 #[] (fun t => !chkT t) (fun _ _ => by kernel_rfl) w'.heap.size C k f l w' ((hC.below h).more h.size) (by simp [maxLen]; omega) (fun x hxm w'' _ => mnotag_any x (hlw x hxm) w'') (Nat.le_refl _))
  generalize hr : dropM xs gs l = out
  unfold dropM at hr
  have hkl := hC.len
  rw [hkl] at hr
  generalize hpe : mErr xs gs = p at hck hr
  by_cases hp : p = 0
  case neg =>
    rw [if_pos hp] at hr
    subst hr
    have hpn : (p != 0) = true := by simpa using hp
    clear hpe hp hbx hbr hA hB hC hct
    go_enter Tryz.func42, Tryz.ntmps42
    go_wp2_with fail
    refine hck.out.mono ?_
    rintro e w1 ⟨rfl, hv1⟩
    have hG := hb0.trans (hv1.mono hb0.size)
    have hr1 := blk_below hbrH.out hv1
    have hlr1 := blk_lt hr1
    clear r0 r1 hfr
    have r0 := blk_cell hr1 0
    have r1 := blk_cell hr1 1
    have hfr := blk_frozen hr1
    simp at r0 r1
    have hGs : Below w.heap.size w ((w1.setCell ⟨w.heap.size + 1, 0, none⟩ (.slice none 0 0)).setCell ⟨w.heap.size + 1, 1, none⟩ (.slice none 0 0)) := (hG.setCell (by dsimp only; omega) _).setCell (by dsimp only; omega) _
    go_wp2
    exact bodyPost_ret (v := .tuple #[.agg #[.slice none 0 0, .slice none 0 0], .int .i64 p]) (by simp [results, Tryz.results42, go_sem, r0, r1]) rfl (PostM.nil_ hGs)
  subst hp
  rw [if_neg (by simp)] at hr
  obtain ⟨hn4, hm4, _, _, _, hasc, _⟩ := sErr_zero.1 hpe
  rw [List.length_map, hA.len] at hn4
  rw [hB.len] at hm4
  by_cases hk4 : 4096 < k
  case pos =>
    rw [if_pos hk4] at hr
    subst hr
    have hdk : decide ((4096 : Int) < (k : Int)) = true := decide_eq_true (by omega)
    clear hpe hbx hbr hA hB hC hct hasc
    go_enter Tryz.func42, Tryz.ntmps42
    go_wp2_with fail
    refine hck.out.mono ?_
    rintro e w1 ⟨rfl, hv1⟩
    have hG := hb0.trans (hv1.mono hb0.size)
    have hr1 := blk_below hbrH.out hv1
    have hlr1 := blk_lt hr1
    clear r0 r1 hfr
    have r0 := blk_cell hr1 0
    have r1 := blk_cell hr1 1
    have hfr := blk_frozen hr1
    simp at r0 r1
    have hGs : Below w.heap.size w ((w1.setCell ⟨w.heap.size + 1, 0, none⟩ (.slice none 0 0)).setCell ⟨w.heap.size + 1, 1, none⟩ (.slice none 0 0)) := (hG.setCell (by dsimp only; omega) _).setCell (by dsimp only; omega) _
    go_wp2
    exact bodyPost_ret (v := .tuple #[.agg #[.slice none 0 0, .slice none 0 0], .int .i64 8]) (by simp [results, Tryz.results42, go_sem, r0, r1]) rfl (PostM.nil_ hGs)
  rw [if_neg hk4] at hr
  have hdk : decide ((4096 : Int) < (k : Int)) = false := decide_eq_false (by omega)
  cases hb2 : l.any (fun t => !chkT t)
  case true =>
    rw [hb2] at hct hr
    rw [if_pos rfl] at hr
    subst hr
    clear hpe hbx hbr hA hB hC hasc
    go_enter Tryz.func42, Tryz.ntmps42
    go_wp2_with fail
    refine hck.out.mono ?_
    rintro e w1 ⟨rfl, hv1⟩
    have hG1 := hb0.trans (hv1.mono hb0.size)
    go_wp2_with fail
    refine (hct.out _ hG1).mono ?_
    rintro e w2 ⟨rfl, hv2⟩
    have hG := hG1.trans (hv2.mono hG1.size)
    have hr1 := blk_below (blk_below hbrH.out hv1) hv2
    have hlr1 := blk_lt hr1
    clear r0 r1 hfr
    have r0 := blk_cell hr1 0
    have r1 := blk_cell hr1 1
    have hfr := blk_frozen hr1
    simp at r0 r1
    have hGs : Below w.heap.size w ((w2.setCell ⟨w.heap.size + 1, 0, none⟩ (.slice none 0 0)).setCell ⟨w.heap.size + 1, 1, none⟩ (.slice none 0 0)) := (hG.setCell (by dsimp only; omega) _).setCell (by dsimp only; omega) _
    go_wp2
    exact bodyPost_ret (v := .tuple #[.agg #[.slice none 0 0, .slice none 0 0], .int .i64 2]) (by simp [results, Tryz.results42, go_sem, r0, r1]) rfl (PostM.nil_ hGs)
  rw [hb2] at hct hr
  rw [if_neg (by simp)] at hr
  have hAr := Lib.hid (fun w' (h : Below w.heap.size w w') => hA.below h)
  have hBr := Lib.hid (fun w' (h : Below w.heap.size w w') => hB.below h)
  have hCr := Lib.hid (fun w' (h : Below w.heap.size w w') => hC.below h)
  have hascG := Lib.hid ((dropG_spec l hasc).1)
  have hcd := Lib.hid (fun (ys : List Tm) h1 h2 => compactT_drop (ys := ys) (g := gs) (l := l) h1 hasc h2)
  have hrH := Lib.hid hr
  have hzW := hb0.size
  clear hpe hbx hbr hA hB hC hx hg hl hasc hr hkl
  go_enter Tryz.func42, Tryz.ntmps42
  go_wp2_with fail
  refine hck.out.mono ?_
  rintro e w1 ⟨rfl, hv1⟩
  have hG1 := hb0.trans (hv1.mono hb0.size)
  go_wp2_with fail
  refine (hct.out _ hG1).mono ?_
  rintro e w2 ⟨rfl, hv2⟩
  have hG2 := hG1.trans (hv2.mono hG1.size)
  have hs2 := blk_below (blk_below hbxH.out hv1) hv2
  have hr2 := blk_below (blk_below hbrH.out hv1) hv2
  clear r0 r1 hfr s0 s1 hltx hltr hck hct
  have hltx := blk_lt hs2
  have hltr := blk_lt hr2
  have s0 := blk_cell hs2 0
  have s1 := blk_cell hs2 1
  simp at s0 s1
  have hsH := Lib.hid hs2
  have hrbH := Lib.hid hr2
  clear hs2 hr2
  go_wp2_with fail
  have hbA : Below w2.heap.size w2 (w2.alloc (.cells #[.slice B m d, .slice C k f] 30)) := (Below.refl _ _).alloc (Nat.le_refl _) _
  have hG3 := hG2.trans (hbA.mono hG2.size)
  refine (concatT_any w2.heap.size B C m k d f gs l _ (heap_at _ _ rfl) ((hBr.out _ hG3).more hG3.size) ((hCr.out _ hG3).more hG3.size) hm hk).mono ?_
  rintro e w3 ⟨A3, c3, rfl, o3, hv3⟩
  have hv3' : Below w2.heap.size w2 w3 := hbA.trans (hv3.mono hbA.size)
  have hz3 := hv3.size
  have hza : (w2.alloc (.cells #[.slice B m d, .slice C k f] 30)).heap.size = w2.heap.size + 1 := by simp
  rw [hza] at o3 hz3
  clear hv3 hbA hG3 hza s0 s1 hltx hltr
  go_upto_region 9 with (fail)
  obtain ⟨w4, hwn⟩ : ∃ w9, w3.alloc (.cells #[.slice A3 (m + k) c3] 30) = w9 := ⟨_, rfl⟩
  have hob4 : w4.heap[w3.heap.size]? = some (.cells #[.slice A3 (m + k) c3] 30 (0, 0)) := by rw [← hwn]; exact heap_at _ _ rfl
  have hb34 : Below w3.heap.size w3 w4 := by rw [← hwn]; exact (Below.refl _ w3).alloc (Nat.le_refl _) _
  rw [hwn]
  clear hwn
  have hz34 := hb34.size
  have o4 := o3.below hb34
  have hv4 : Below w2.heap.size w2 w4 := hv3'.trans (hb34.mono hv3'.size)
  have hz4 := hv4.size
  have hlto := blk_lt hob4
  have b0 := blk_cell hob4 0
  simp at b0
  have hob4H := Lib.hid hob4
  clear hob4
  go_wp2_with fail
  refine (sortfT_any (w2.heap.size + 1) A3 (m + k) c3 (gs ++ l) w4 o4 (by omega)).mono ?_
  rintro e w5 ⟨rfl, ys, hso, hmem, o5, hg5⟩
  have hrow3 : ∀ q, (Value.slice A3 (m + k) c3).ownBlock = some q → w2.heap.size + 1 ≤ q := fun q hq => (o4.block q hq).1
  have hv5 : Below w2.heap.size w2 w5 := hv4.grown hg5 hv4.size (fun q hq => by have := hrow3 q hq; omega)
  have hob5 : w5.heap[w3.heap.size]? = some (.cells #[.slice A3 (m + k) c3] 30 (0, 0)) := (hg5.block _ (blk_lt hob4H.out) (fun e => o4.ne_blk hob4H.out (by decide) e.symm)).trans hob4H.out
  have hz5 := hg5.size
  clear b0 hlto hg5
  have hlto := blk_lt hob5
  have b0 := blk_cell hob5 0
  simp at b0
  have hob5H := Lib.hid hob5
  clear hob5
  go_wp2_with fail
  refine (compactT_any (w2.heap.size + 1) A3 (m + k) c3 ys w5 o5 (by omega) (by omega)).mono ?_
  rintro e w6 ⟨n5, rfl, o6, hg6⟩
  have hv6 : Below w2.heap.size w2 w6 := hv5.grown hg6 hv5.size (fun q hq => by have := hrow3 q hq; omega)
  have hob6 : w6.heap[w3.heap.size]? = some (.cells #[.slice A3 (m + k) c3] 30 (0, 0)) := (hg6.block _ (blk_lt hob5H.out) (fun e => o5.ne_blk hob5H.out (by decide) e.symm)).trans hob5H.out
  have hz6 := hg6.size
  rw [hcd.out ys hso hmem] at o6
  clear hg6 hv5 o5 o4 o3 hso hmem hcd hrow3 b0 hlto
  have hlto := blk_lt hob6
  have b0 := blk_cell hob6 0
  simp at b0
  have hfo := blk_frozen hob6
  have hob6H := Lib.hid hob6
  clear hob6
  go_upto_region 11 with (fail)
  obtain ⟨w7, hw7⟩ : ∃ w7, w6.setCell ⟨w3.heap.size, 0, none⟩ (.slice A3 n5 c3) = w7 := ⟨_, rfl⟩
  have hob7 : w7.heap[w3.heap.size]? = some (.cells #[.slice A3 n5 c3] 30 (0, 0)) := by rw [← hw7]; exact blk_set hob6H.out 0 _
  have o7 := o6.set_blk hob6H.out (by decide) 0 (.slice A3 n5 c3)
  rw [hw7] at o7
  have hv7 : Below w2.heap.size w2 w7 := by rw [← hw7]; exact hv6.setCell (by dsimp only; omega) _
  have hz7 : w7.heap.size = w6.heap.size := by rw [← hw7]; simp
  rw [hw7]
  clear hw7 b0 hlto hfo o6
  have hG7 := hG2.trans (hv7.mono hG2.size)
  have hr7 := blk_below hrbH.out hv7
  have hs7 := blk_below hsH.out hv7
  have hn5 : n5 = (dropG gs l).length := by simpa using o7.rd.2.1.symm
  generalize dropG gs l = D at hn5 o7 hrH hascG
  have hz2 := hG2.size
  have hlto := blk_lt hob7
  have b0 := blk_cell hob7 0
  simp at b0
  have hltr := blk_lt hr7
  have hltx := blk_lt hs7
  by_cases hn5k : 4096 < n5
  case pos =>
    have hr := hrH.out
    rw [← hn5, if_pos hn5k] at hr
    subst hr
    clear hn5
    have hdn : decide ((4096 : Int) < (n5 : Int)) = true := decide_eq_true (by omega)
    have hfr := blk_frozen hr7
    have r0 := blk_cell hr7 0
    have r1 := blk_cell hr7 1
    simp at r0 r1
    have hGs : Below w.heap.size w ((w7.setCell ⟨w.heap.size + 1, 0, none⟩ (.slice none 0 0)).setCell ⟨w.heap.size + 1, 1, none⟩ (.slice none 0 0)) := (hG7.setCell (by dsimp only; omega) _).setCell (by dsimp only; omega) _
    clear hs7 hr7 hob7
    go_wp2
    exact bodyPost_ret (v := .tuple #[.agg #[.slice none 0 0, .slice none 0 0], .int .i64 4]) (by simp [results, Tryz.results42, go_sem, r0, r1]) rfl (PostM.nil_ hGs)
  have hr := hrH.out
  rw [← hn5, if_neg hn5k] at hr
  clear hn5
  have hrH := Lib.hid hr
  have hdn : decide ((4096 : Int) < (n5 : Int)) = false := decide_eq_false (by omega)
  have s0 := blk_cell hs7 0
  have s1 := blk_cell hs7 1
  simp at s0 s1
  have hr7H := Lib.hid hr7
  have hob7H := Lib.hid hob7
  clear hs7 hr7 hr hob7
  go_wp2_with fail
  refine (cloneP_any A n c xs w7 ((hAr.out _ hG7).more hG7.size) hn).mono ?_
  rintro e w8 ⟨A8, c8, rfl, o8, hv8⟩
  have hob8 := blk_below hob7H.out hv8
  have o78 := o7.below hv8
  have hob8H := Lib.hid hob8
  have hv8H := Lib.hid hv8
  clear hob8 b0 hlto
  go_wp2_with fail
  refine (delfP_gen 85 #[.pointer (some ⟨w3.heap.size, 0, none⟩)] (fun a => D.contains a.1) (enters_of Tryz.func85 (by kernel_rfl) rfl) w7.heap.size A8 n c8 xs w8 o8 hn (fun a ha w' hbw => mdrop1_any w3.heap.size A3 n5 c3 D a w' ((hbw.block _ (by have := blk_lt hob7H.out; omega)).trans hob8H.out) (o7.below (hv8H.out.trans hbw)).rd.1 (by omega) hascG.out) hv8.size).mono ?_
  rintro e w9 ⟨m8, rfl, o9, hg9⟩
  have hv9 : Below w7.heap.size w7 w9 := hv8H.out.grown hg9 hv8H.out.size (fun q hq => (o8.block q hq).1)
  have o79 := o7.below hv9
  have hG9 := hG7.trans (hv9.mono hG7.size)
  have hob9 := blk_below hob7H.out hv9
  have hr9 := blk_below hr7H.out hv9
  have hz9 := hv9.size
  clear hob8H hv8H o8 o78 hg9 s0 s1 hltr hltx
  have hlto := blk_lt hob9
  have hltr := blk_lt hr9
  have b0 := blk_cell hob9 0
  have r0 := blk_cell hr9 0
  have r1 := blk_cell hr9 1
  simp at b0 r0 r1
  have hfr := blk_frozen hr9
  have hr9H := Lib.hid hr9
  clear hob9 hr9
  go_wp2
  have hr := hrH.out
  subst hr
  have hm8 : m8 ≤ n := by
    have h1 := o9.rd.2.1
    rw [List.length_map] at h1
    have h2 := List.length_filter_le (fun a : Pm => !D.contains a.1) xs
    have h3 := (hAr.out w (Below.refl _ _)).len
    omega
  have ha5 := (o9.set_blk hr9H.out (by decide) 0 (.slice A8 m8 c8)).set_blk (blk_set hr9H.out 0 _) (by decide) 1 (.slice A3 n5 c3)
  have hb5 := (o79.set_blk hr9H.out (by decide) 0 (.slice A8 m8 c8)).set_blk (blk_set hr9H.out 0 _) (by decide) 1 (.slice A3 n5 c3)
  exact bodyPost_ret (v := .tuple #[.agg #[.slice A8 m8 c8, .slice A3 n5 c3], .int .i64 0]) (by simp [results, Tryz.results42, go_sem, r0, r1]) rfl ⟨A8, m8, c8, A3, n5, c3, rfl, ha5.rd.1, hb5.rd.1, by omega, by omega, ha5.rd.2.2.1, ha5.rd.2.2.2, hb5.rd.2.2.1, hb5.rd.2.2.2, (hG9.setCell (by dsimp only; omega) _).setCell (by dsimp only; omega) _⟩
end Go.Proofs.YtffnpfponnhddaaGreat
