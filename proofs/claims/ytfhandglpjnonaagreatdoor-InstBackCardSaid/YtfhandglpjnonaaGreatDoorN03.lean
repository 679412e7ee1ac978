/- ident.Write and the document's: a name's bytes. dots.Write and the document's: a set's bytes. The plain law of sets of names: the order, strictly rising lists, what the document's Make, and what a merge of two sets come to. The plain law of vectors: one name more, many names more. The plain laws of sets: what Make, Union and Minus give. The plain law of Fold: what it takes, what it leaves. Plain words on operations' names (tags): the order, lists of them, what is wrong with two lists of them (no program in sight). Operations' names (tags): what ident and the document's chapter 5 say of one, of two; reading lists of them. -/
import Derived.Test.YtfhandglpjnonaaGreatDoorN02
set_option maxRecDepth 100000
set_option maxHeartbeats 16000000
namespace Go.Proofs.YtfhandglpjnonaaGreatDoor
open Go.RowKit
def writeI (x : Im) : List UInt8 := if chk x then numB x.1.toNat ++ numB x.2.toNat else []
theorem idw_any (x : Im) (hx : x.wf) (w : World) :
 Calls Tryz.prog 50 #[.agg #[.int .i64 x.1, .int .u32 x.2]] w fun e w' => e = .returned (.string (bs (writeI x))) ∧ Below w.heap.size w w' := by
 have hch := chk_any x hx
 generalize hr : writeI x = out
 unfold writeI at hr
 cases hc : chk x
 ·
  rw [hc] at hr hch
  rw [show errI false = 2 from rfl] at hch
  rw [if_neg (by simp)] at hr
  subst hr
  have hch := jH hch
  clear hc
  obtain ⟨o, s⟩ := x
  go_enter Tryz.func50, Tryz.ntmps50
  go_wp2_with fail
  refine (hch.out _).mono ?_
  rintro e w1 ⟨rfl, hb⟩
  have hB : Below w.heap.size w w1 := ((Below.refl _ w).alloc (Nat.le_refl _) _).trans (hb.mono (by simp))
  go_wp2
  go_ret
  exact ⟨rfl, hB⟩
 ·
  rw [hc] at hr hch
  rw [show errI true = 0 from rfl] at hch
  rw [if_pos rfl] at hr
  have hch := jH hch
  obtain ⟨o, s⟩ := x
  simp only [chk, decide_eq_true_eq] at hc
  obtain ⟨h1, h2, h3, h4⟩ := hc
  obtain ⟨k, rfl⟩ : ∃ k : Nat, o = (k : Int) := ⟨o.toNat, by omega⟩
  obtain ⟨m, rfl⟩ : ∃ m : Nat, s = (m : Int) := ⟨s.toNat, by omega⟩
  have hk0 : (0 : Int) ≤ (k : Int) := by omega
  have hk8 : (k : Int) < 8 := by omega
  have hm0 : (0 : Int) ≤ (m : Int) := by omega
  have hm1 : (m : Int) ≤ 1048576 := by omega
  simp only [Int.toNat_natCast] at hr
  have hT : Hid (bs (numB k) ++ bs (numB m) = bs out) := jH (by rw [jM, hr])
  have hsz : ¬ 9223372036854775807 < (bs (numB k)).size + (bs (numB m)).size := by
   have h5 := jN k (by omega)
   have h6 := jN m (by omega)
   rw [jG, jG]; omega
  have ck := jH (fun w => num_any k (by omega) w)
  have wk : IntKind.u64.wrap (k : Int) = k := IntWalk.u64_in _ (by omega)
  have wm : IntKind.u64.wrap (m : Int) = m := IntWalk.u64_in _ (by omega)
  have cm := jH (fun w => num_any m (by omega) w)
  clear hr hx h1 h2 h3 h4
  go_enter Tryz.func50, Tryz.ntmps50
  go_wp2_with fail
  refine (hch.out _).mono ?_
  rintro e w1 ⟨rfl, hb⟩
  have hz := hb.size
  simp only [World.size_alloc] at hz
  have hbI : w1.heap[w.heap.size]? = some (.cells #[.int .i64 (k : Int), .int .u32 (m : Int)] 24 (0, 0)) := (hb.block _ (by simp)).trans (jT _ _ rfl)
  have i0 := jA hbI 0
  have i1 := jA hbI 1
  simp at i0 i1
  have hB : Below w.heap.size w w1 := ((Below.refl _ w).alloc (Nat.le_refl _) _).trans (hb.mono (by simp))
  have hlt : w.heap.size < w1.heap.size := by omega
  have hq0 : KQ w1.heap.size w1 w1 := kq (Below.refl _ _)
  clear hbI hb hz
  go_wp2_with fail
  go_region_held3 (fun w' => KQ w1.heap.size w1 w') (first
   | with_reducible exact jP (by assumption) (by simp) (by assumption)
   | with_reducible exact yB (by assumption) (by simp) (by assumption) (by simp [Value.ownBlock])
   | ((with_reducible refine kq ?_); (repeat (first | (with_reducible exact Below.refl _ _) | (with_reducible refine Below.drew ?_) | (with_reducible refine Below.alloc ?_ (by simp) _) | (with_reducible refine Below.setCell ?_ (by simp) _) | (with_reducible exact (by assumption : KQ _ _ _).1))); done))
   (first | (go_at_call 93; (first | ((with_reducible refine (ck.out _).mono ?_); rintro e w2 ⟨rfl, hb2⟩) | ((with_reducible refine (cm.out _).mono ?_); rintro e w3 ⟨rfl, hb3⟩))))
  all_goals
   go_wp2
   go_ret
   exact ⟨ret_str hT.out, hB.trans ((by with_reducible assumption : KQ w1.heap.size w1 _).1.mono (by omega))⟩
theorem writeI_len (x : Im) : (writeI x).length ≤ 18 := by
 unfold writeI
 split
 ·
  rename_i h
  simp [chk] at h
  have h1 := jN x.1.toNat (by omega)
  have h2 := jN x.2.toNat (by omega)
  rw [List.length_append]; omega
 ·
  simp
end Go.Proofs.YtfhandglpjnonaaGreatDoor
namespace Go.Proofs.YtfhandglpjnonaaGreatDoor
end Go.Proofs.YtfhandglpjnonaaGreatDoor
namespace Go.Proofs.YtfhandglpjnonaaGreatDoor
def Vm.wf (v : Vm) : Prop := (0 ≤ v.d0 ∧ v.d0 < 4294967296) ∧ (0 ≤ v.d1 ∧ v.d1 < 4294967296) ∧ (0 ≤ v.d2 ∧ v.d2 < 4294967296) ∧ (0 ≤ v.d3 ∧ v.d3 < 4294967296) ∧ (0 ≤ v.d4 ∧ v.d4 < 4294967296) ∧ (0 ≤ v.d5 ∧ v.d5 < 4294967296) ∧ (0 ≤ v.d6 ∧ v.d6 < 4294967296) ∧ (0 ≤ v.d7 ∧ v.d7 < 4294967296)
theorem zV_wf : zV.wf := by unfold zV Vm.wf; decide
theorem Vm.set_wf {v : Vm} (h : v.wf) (o s : Int) (h0 : 0 ≤ s) (h1 : s < 4294967296) : (v.set o s).wf := by
 obtain ⟨a0, a1, a2, a3, a4, a5, a6, a7⟩ := h
 unfold Vm.wf Vm.set
 refine ⟨?_, ?_, ?_, ?_, ?_, ?_, ?_, ?_⟩ <;> (dsimp only; split <;> first | exact ⟨h0, h1⟩ | assumption)
end Go.Proofs.YtfhandglpjnonaaGreatDoor
namespace Go.Proofs.YtfhandglpjnonaaGreatDoor
end Go.Proofs.YtfhandglpjnonaaGreatDoor
namespace Go.Proofs.YtfhandglpjnonaaGreatDoor
theorem get_set {v : Vm} {o s o' : Int} (h0 : 0 ≤ o) (h1 : o < 8) (h2 : 0 ≤ o') (h3 : o' < 8) : (v.set o s).get o' = if o = o' then s else v.get o' := by
 obtain rfl | rfl | rfl | rfl | rfl | rfl | rfl | rfl : o = 0 ∨ o = 1 ∨ o = 2 ∨ o = 3 ∨ o = 4 ∨ o = 5 ∨ o = 6 ∨ o = 7 := by omega
 all_goals
  obtain rfl | rfl | rfl | rfl | rfl | rfl | rfl | rfl : o' = 0 ∨ o' = 1 ∨ o' = 2 ∨ o' = 3 ∨ o' = 4 ∨ o' = 5 ∨ o' = 6 ∨ o' = 7 := by omega
  all_goals simp [Vm.set, Vm.get]
end Go.Proofs.YtfhandglpjnonaaGreatDoor
namespace Go.Proofs.YtfhandglpjnonaaGreatDoor
abbrev Tm := Im × Int
def Tm.wf (t : Tm) : Prop := t.1.wf
def chkT (t : Tm) : Bool := chk t.1 && decide (0 ≤ t.2 ∧ t.2 ≤ 15)
def cmpT (x y : Tm) : Int := if cmpI x.1 y.1 ≠ 0 then cmpI x.1 y.1 else ordI x.2 y.2
def ltT (x y : Tm) : Prop := cmpT x y < 0
instance (x y : Tm) : Decidable (ltT x y) := inferInstanceAs (Decidable (cmpT x y < 0))
def ascT : List Tm → Bool
 | [] => true
 | x :: r => (match r with | [] => true | y :: _ => decide (cmpT x y < 0)) && ascT r
theorem ascT_iff : ∀ (xs : List Tm), ascT xs = true ↔ ∀ j x y, xs[j]? = some x → xs[j + 1]? = some y → cmpT x y < 0
 | [] => by simp [ascT]
 | [x] => by simp [ascT]
 | x :: y :: r => by
  have ih := ascT_iff (y :: r)
  rw [ascT, Bool.and_eq_true, ih]
  constructor
  ·
   rintro ⟨h1, h2⟩ j a b ha hb
   cases j with
   | zero => simp at ha hb; subst ha; subst hb; simpa using h1
   | succ j => exact h2 j a b (by simpa using ha) (by simpa using hb)
  ·
   intro h
   exact ⟨by simpa using h 0 x y rfl rfl, fun j a b ha hb => h (j + 1) a b (by simpa using ha) (by simpa using hb)⟩
def firstG {α : Type} (p : α → Bool) (xs : List α) : Int := match xs.findIdx? p with | some i => (i : Int) | none => -1
theorem firstG_at {α : Type} {p : α → Bool} {l : List α} {k : Nat} {x : α} (h : ∀ y ∈ l.take k, p y = false) (hx : l[k]? = some x) (hp : p x = true) : firstG p l = k := by
 have hk : k < l.length := (List.getElem?_eq_some_iff.1 hx).1
 have he : l[k] = x := (List.getElem?_eq_some_iff.1 hx).2
 have : l.findIdx? p = some k := by
  rw [List.findIdx?_eq_some_iff_getElem]
  refine ⟨hk, by rw [he]; exact hp, fun j hj => ?_⟩
  have := h l[j] (List.mem_iff_getElem?.2 ⟨j, by rw [List.getElem?_take_of_lt hj]; simp⟩)
  simp [this]
 simp [firstG, this]
theorem firstG_none {α : Type} {p : α → Bool} {l : List α} (h : ∀ y ∈ l, p y = false) : firstG p l = -1 := by
 have : l.findIdx? p = none := List.findIdx?_eq_none_iff.2 h
 simp [firstG, this]
theorem firstG_any {α : Type} (p : α → Bool) (l : List α) : decide (0 ≤ firstG p l) = l.any p := by
 unfold firstG
 cases h : l.findIdx? p with
 | none =>
  rw [List.findIdx?_eq_none_iff] at h
  have h2 : l.any p = false := by rw [List.any_eq_false]; intro x hx; simp [h x hx]
  rw [h2]; rfl
 | some i =>
  have h2 : l.any p = true := by
   obtain ⟨hi, hp, _⟩ := List.findIdx?_eq_some_iff_getElem.1 h
   exact List.any_eq_true.2 ⟨_, List.getElem_mem hi, hp⟩
  rw [h2]; simp
end Go.Proofs.YtfhandglpjnonaaGreatDoor
namespace Go.Proofs.YtfhandglpjnonaaGreatDoor
open Go.RowKit
def Tm.enc (t : Tm) : List Value := [.int .i64 t.1.1, .int .u32 t.1.2, .int .i64 t.2]
theorem Tm.len {xs : List Tm} : ∀ x ∈ xs.map Tm.enc, x.length = 3 := by
 intro x hx; obtain ⟨t, _, rfl⟩ := List.mem_map.1 hx; rfl
theorem Tm.one {xs : List Tm} : ∀ x ∈ xs.map Tm.enc, ∀ u ∈ x, u.oneCell' = true := by
 intro x hx u hu; obtain ⟨t, _, rfl⟩ := List.mem_map.1 hx
 simp only [Tm.enc, List.mem_cons, List.not_mem_nil, or_false] at hu
 rcases hu with rfl | rfl | rfl <;> rfl
def RdT (w : World) (B : Nat) (A : Option Addr) (n : Nat) (xs : List Tm) : Prop := Rd w B 3 A n (xs.map Tm.enc)
theorem RdT.below {w w' : World} {B n : Nat} {A : Option Addr} {xs : List Tm} (h : RdT w B A n xs) (hb : Below B w w') : RdT w' B A n xs := Rd.below h hb
theorem RdT.more {w : World} {B B' n : Nat} {A : Option Addr} {xs : List Tm} (h : RdT w B A n xs) (hb : B ≤ B') : RdT w B' A n xs := Rd.more h hb
theorem RdT.len {w : World} {B n : Nat} {A : Option Addr} {xs : List Tm} (h : RdT w B A n xs) : xs.length = n := by simpa using h.1
theorem infoTag : (Tryz.prog.info? 131).map (fun i => (i.zero, i.size, i.bytes)) = some (some (.agg #[.int .i64 0, .int .u32 0, .int .i64 0]), 3, 24) := by kernel_rfl
theorem eTag : ElemInfo Tryz.prog 134 131 3 24 := by
 obtain ⟨i, hi, h0, h1, h2⟩ := info_parts infoTag
 exact ⟨Tryz.underlying134, ⟨i, _, hi, h0, h1, h2, rfl⟩, by decide⟩
theorem tbox (t : Tm) (w : World) : (w.alloc (.cells #[.int .i64 t.1.1, .int .u32 t.1.2, .int .i64 t.2] 131)).heap[w.heap.size]? = some (.cells #[.int .i64 t.1.1, .int .u32 t.1.2, .int .i64 t.2] 131 (0, 0)) := jT _ _ rfl
theorem pchkt_any (t : Tm) (ht : t.wf) (w : World) :
 Calls Tryz.prog 152 #[.agg #[.int .i64 t.1.1, .int .u32 t.1.2, .int .i64 t.2]] w fun e w' => e = .returned (.int .i64 (errI (chkT t))) ∧ Below w.heap.size w w' := by
 obtain ⟨⟨o, s⟩, n⟩ := t
 have hch := chk_any (o, s) ht
 dsimp only
 by_cases h1 : n < 0
 ·
  have hr : chkT ((o, s), n) = false := by simp [chkT]; omega
  rw [hr]
  go_enter Tryz.func152, Tryz.ntmps152
  go_wp2
  go_ret
  exact ⟨rfl, (Below.refl _ _).alloc (Nat.le_refl _) _⟩
 by_cases h2 : 16 ≤ n
 ·
  have hr : chkT ((o, s), n) = false := by simp [chkT]; omega
  rw [hr]
  go_enter Tryz.func152, Tryz.ntmps152
  go_wp2
  go_ret
  exact ⟨rfl, (Below.refl _ _).alloc (Nat.le_refl _) _⟩
 ·
  have hr : chkT ((o, s), n) = chk (o, s) := by simp [chkT]; omega
  rw [hr]
  generalize chk (o, s) = r at hch ⊢
  dsimp only at hch
  have hch := jH hch
  go_enter Tryz.func152, Tryz.ntmps152
  go_wp2_with fail
  refine (hch.out _).mono ?_
  rintro e w1 ⟨rfl, hb⟩
  have hB : Below w.heap.size w w1 := ((Below.refl _ w).alloc (Nat.le_refl _) _).trans (hb.mono (by simp))
  go_wp2
  go_ret
  exact ⟨rfl, hB⟩
theorem pcmpt_any (x y : Tm) (w : World) :
 Calls Tryz.prog 151 #[.agg #[.int .i64 x.1.1, .int .u32 x.1.2, .int .i64 x.2], .agg #[.int .i64 y.1.1, .int .u32 y.1.2, .int .i64 y.2]] w fun e w' => e = .returned (.int .i64 (cmpT x y)) ∧ Below w.heap.size w w' := by
 generalize hr : cmpT x y = r
 unfold cmpT at hr
 have hc1 := cmp_any x.1 y.1
 have hc2 := ccmp_any x.2 y.2
 have ho := or_any
 generalize cmpI x.1 y.1 = p at *
 generalize ordI x.2 y.2 = q at *
 have hc1 := jH hc1
 have hc2 := jH hc2
 have ho := jH (fun g w h0 h1 h2 => hr ▸ ho g p q w h0 h1 h2)
 clear hr
 have hB0 : Below w.heap.size w ((w.alloc (.cells #[.int .i64 x.1.1, .int .u32 x.1.2, .int .i64 x.2] 131)).alloc (.cells #[.int .i64 y.1.1, .int .u32 y.1.2, .int .i64 y.2] 131)) := ((Below.refl _ w).alloc (Nat.le_refl _) _).alloc (by simp) _
 have hbx : ((w.alloc (.cells #[.int .i64 x.1.1, .int .u32 x.1.2, .int .i64 x.2] 131)).alloc (.cells #[.int .i64 y.1.1, .int .u32 y.1.2, .int .i64 y.2] 131)).heap[w.heap.size]? = some (.cells #[.int .i64 x.1.1, .int .u32 x.1.2, .int .i64 x.2] 131 (0, 0)) := yE _ (by simp) (jT _ _ rfl)
 have hby : ((w.alloc (.cells #[.int .i64 x.1.1, .int .u32 x.1.2, .int .i64 x.2] 131)).alloc (.cells #[.int .i64 y.1.1, .int .u32 y.1.2, .int .i64 y.2] 131)).heap[w.heap.size + 1]? = some (.cells #[.int .i64 y.1.1, .int .u32 y.1.2, .int .i64 y.2] 131 (0, 0)) := jT _ _ (by simp)
 generalize hW : ((w.alloc (.cells #[.int .i64 x.1.1, .int .u32 x.1.2, .int .i64 x.2] 131)).alloc (.cells #[.int .i64 y.1.1, .int .u32 y.1.2, .int .i64 y.2] 131)) = W at hB0 hbx hby
 have hltx := jB hbx
 have hlty := jB hby
 have p0 := jA hbx 0
 have p1 := jA hbx 1
 have p2 := jA hbx 2
 have q0 := jA hby 0
 have q1 := jA hby 1
 have q2 := jA hby 2
 simp at p0 p1 p2 q0 q1 q2
 clear hbx hby
 go_enter Tryz.func151, Tryz.ntmps151
 go_wp2
 have hq0 : KQ W.heap.size W W := kq (Below.refl _ _)
 go_region_held3 (fun w' => KQ W.heap.size W w') (first
  | with_reducible exact jP (by assumption) (by simp) (by assumption)
  | with_reducible exact kq_alloc (by with_reducible assumption) (Nat.le_refl _) _
  | with_reducible exact kq_alloc (kq_drew (by assumption)) (Nat.le_refl _) _
  | ((with_reducible refine kq ?_); (repeat (first | (with_reducible exact Below.refl _ _) | (with_reducible refine Below.drew ?_) | (with_reducible refine Below.alloc ?_ (by simp) _) | (with_reducible refine Below.setCell ?_ (by simp) _) | (with_reducible exact (by assumption : KQ _ _ _).1))); done))
  (first
   | (go_at_call 167; refine (hc1.out _).mono ?_; rintro e w1 ⟨rfl, hb1⟩)
   | (go_at_call 168; refine (hc2.out _).mono ?_; rintro e w2 ⟨rfl, rfl⟩)
   | (go_at_call 166; refine (ho.out _ _ (by simp) (jA (jT _ _ (by simp)) 0) (jA (jT _ _ (by simp)) 1)).mono ?_; rintro e w3 ⟨rfl, rfl⟩))
 go_wp2
 go_ret
 exact ⟨rfl, hB0.trans ((by with_reducible assumption : KQ W.heap.size W _).1.mono hB0.size)⟩
end Go.Proofs.YtfhandglpjnonaaGreatDoor
