/- Effects, parts, transactions: plain words, and how their cells lie in memory. selkielaw14.Effect, selkielaw15.To: a transaction with parts of its own that say the same. -/
import Derived.Test.YtfhandglpjnonaaGreatDoorN06
import Derived.Test.YtfhandglpjnonaaGreatDoorGb
import Derived.Deep.DeepCutAuto
import Derived.Deep.RegionHeld3
import Derived.Deep.LoopGhost
import Derived.Deep.RegionWith
import Derived.Deep.CutBlock
set_option maxRecDepth 100000
set_option maxHeartbeats 16000000
namespace Go.Proofs.YtfhandglpjnonaaGreatDoor
open Go.RowKit
theorem bs_toL (e : List UInt8) : (bs e).toList = e := by rw [ByteArray.toList_eq]; rfl
structure Ef where
 act : Int
 name : List UInt8
 val : Int
 tag : Tm
 st : Sm
 tags : List Tm
instance : Inhabited Ef := ⟨⟨0, [], 0, ((0, 0), 0), (0, 0), []⟩⟩
def Ef.wf (e : Ef) : Prop := e.tag.wf ∧ e.st.wf ∧ (-9223372036854775808 ≤ e.val ∧ e.val ≤ 9223372036854775807) ∧ (∀ t ∈ e.tags, t.wf) ∧ -9223372036854775808 ≤ e.act ∧ e.act ≤ 9223372036854775807
def sameE (a b : Ef) : Bool := decide (a.act = b.act) && decide (a.name = b.name) && decide (a.val = b.val) && decide (a.tag = b.tag) && decide (a.st = b.st) && decide (a.tags = b.tags)
theorem sameE_iff {a b : Ef} : sameE a b = true ↔ a = b := by
 cases a; cases b
 simp [sameE, and_assoc]
abbrev Pv := List UInt8 × Ef
def samePv (a b : Pv) : Bool := decide (a.1 = b.1) && sameE a.2 b.2
theorem samePv_iff {a b : Pv} : samePv a b = true ↔ a = b := by
 cases a; cases b
 simp [samePv, sameE_iff]
def samePs : List Pv → List Pv → Bool
 | [], [] => true
 | a :: l, b :: m => samePv a b && samePs l m
 | _, _ => false
theorem samePs_iff : ∀ {l m : List Pv}, samePs l m = true ↔ l = m
 | [], [] => by simp [samePs]
 | [], _ :: _ => by simp [samePs]
 | _ :: _, [] => by simp [samePs]
 | a :: l, b :: m => by simp [samePs, samePv_iff, samePs_iff (l := l) (m := m)]
structure Pe where
 key : List UInt8
 e : Ef
 A : Option Addr
 l : Nat
 c : Nat
instance : Inhabited Pe := ⟨⟨[], default, none, 0, 0⟩⟩
def Pe.enc (p : Pe) : List Value := [.string (bs p.key), .int .i64 p.e.act, .string (bs p.e.name), .int .i64 p.e.val, .int .i64 p.e.tag.1.1, .int .u32 p.e.tag.1.2, .int .i64 p.e.tag.2, .int .u32 p.e.st.1, .int .i64 p.e.st.2, .slice p.A p.l p.c]
def Pe.Ok (w : World) (B : Nat) (p : Pe) : Prop := RdT w B p.A p.l p.e.tags
def Pe.core (p : Pe) : Pv := (p.key, p.e)
theorem Pe.Ok.below {w w' : World} {B : Nat} {p : Pe} (h : p.Ok w B) (hb : Below B w w') : p.Ok w' B := RdT.below h hb
theorem Pe.Ok.more {w : World} {B B' : Nat} {p : Pe} (h : p.Ok w B) (hb : B ≤ B') : p.Ok w B' := RdT.more h hb
def RdE (w : World) (B : Nat) (A : Option Addr) (n : Nat) (ps : List Pe) : Prop := Rd w B 10 A n (ps.map Pe.enc) ∧ ∀ p ∈ ps, p.Ok w B
theorem RdE.below {w w' : World} {B n : Nat} {A : Option Addr} {ps : List Pe} (h : RdE w B A n ps) (hb : Below B w w') : RdE w' B A n ps := ⟨Rd.below h.1 hb, fun p hp => (h.2 p hp).below hb⟩
theorem RdE.more {w : World} {B B' n : Nat} {A : Option Addr} {ps : List Pe} (h : RdE w B A n ps) (hb : B ≤ B') : RdE w B' A n ps := ⟨Rd.more h.1 hb, fun p hp => (h.2 p hp).more hb⟩
theorem RdE.len {w : World} {B n : Nat} {A : Option Addr} {ps : List Pe} (h : RdE w B A n ps) : ps.length = n := by simpa using h.1.1
theorem RdE.nil_ {w : World} {B : Nat} : RdE w B none 0 [] := ⟨Rd.nil_, by simp⟩
def OwE (t : TypeId) (w : World) (base : Nat) (A : Option Addr) (n c : Nat) (ps : List Pe) : Prop :=
 Ow w base t 10 (.slice A n c) (ps.map Pe.enc) ∧ ∀ p ∈ ps, Ow w base 131 3 (.slice p.A p.l p.c) (p.e.tags.map Tm.enc)
section
variable {t : TypeId} {w w' : World} {bt bt' n c : Nat} {A : Option Addr} {ps : List Pe}
theorem OwE.rd (h : OwE t w bt A n c ps) : RdE w w.heap.size A n ps := ⟨h.1.rd.1, fun p hp => (h.2 p hp).rd.1⟩
theorem OwE.len (h : OwE t w bt A n c ps) : ps.length = n := by simpa using h.1.rd.2.1
theorem OwE.max (h : OwE t w bt A n c ps) : n ≤ maxLen := Nat.le_trans h.1.rd.2.2.1 h.1.rd.2.2.2
theorem OwE.below (h : OwE t w bt A n c ps) (hb : Below w.heap.size w w') : OwE t w' bt A n c ps := ⟨h.1.below hb, fun p hp => (h.2 p hp).below hb⟩
theorem OwE.base (h : OwE t w bt A n c ps) (hb : bt' ≤ bt) : OwE t w bt' A n c ps := ⟨h.1.base hb, fun p hp => (h.2 p hp).base hb⟩
theorem OwE.nil_ : OwE t w bt none 0 0 [] := ⟨Ow.nil_ _ _ _ _, by simp⟩
end
structure Tv where
 id : Im
 deps : Vm
 thin : Bool
 parts : List Pv
theorem feffl_any (a v o s n t ao : Int) (nm : ByteArray) (A : Option Addr) (l c : Nat) (ts : List Tm) (w : World)
 (hT : Rd w w.heap.size 3 A l (ts.map Tm.enc)) (hl : l ≤ 4096) :
 Calls Tryz.prog 85 #[.agg #[.int .i64 a, .string nm, .int .i64 v, .int .i64 o, .int .u32 s, .int .i64 n, .int .u32 t, .int .i64 ao, .slice A l c]] w
  fun e w' => ∃ A' c', e = .returned (.agg #[.int .i64 a, .string nm, .int .i64 v, .int .i64 o, .int .u32 s, .int .i64 n, .int .u32 t, .int .i64 ao, .slice A' l c']) ∧
   Ow w' w.heap.size 131 3 (.slice A' l c') (ts.map Tm.enc) ∧ Below w.heap.size w w' := by
 go_enter Tryz.func85, Tryz.ntmps85
 go_wp2
 have hT1 := hT.below ((Below.refl _ w).alloc (Nat.le_refl _) (.cells #[.int .i64 a, .string nm, .int .i64 v, .int .i64 o, .int .u32 s, .int .i64 n, .int .u32 t, .int .i64 ao, .slice A l c] 136))
 go_region_held3 (fun w' => KQ (w.heap.size + 1) (w.alloc (.cells #[.int .i64 a, .string nm, .int .i64 v, .int .i64 o, .int .u32 s, .int .i64 n, .int .u32 t, .int .i64 ao, .slice A l c] 136)) w')
  (first
   | with_reducible exact jP (by assumption) (by simp) (by assumption)
   | with_reducible exact yB (by assumption) (by simp) (by assumption) (by simp [Value.ownBlock])
   | ((with_reducible refine kq ?_); (repeat (first | (with_reducible exact Below.refl _ _) | (with_reducible refine Below.drew ?_) | (with_reducible refine Below.alloc ?_ (by simp) _) | (with_reducible refine Below.setCell ?_ (by simp) _) | (with_reducible exact (by assumption : KQ _ _ _).1))); done))
  (first
   | (
    refine step_append_rd _ rfl _ _ _ rfl eTag (base := w.heap.size + 2) (v := .slice (some ⟨w.heap.size + 1 + 1, 0, none⟩) 0 0) (xs := []) rfl (Ow.made0d _ _ _ (by simp) (by simp)) rfl (kq_rd hT1 (Nat.le_succ _) (by assumption)) Tm.len Tm.one (by simp [maxLen]; omega) (by simp; omega) (by simp) ?_
    intro A' n' c' w1 hn' hown hg hat
    obtain ⟨hblk, hcell, hfro⟩ := grown_cells (b := w.heap.size + 1) hg (heap_drew (yE _ (by simp) (jT _ _ (by simp)))) (by simp [Value.ownBlock])
    have r0 := hcell 0
    have r1 := hcell 1
    have r2 := hcell 2
    have r3 := hcell 3
    have r4 := hcell 4
    have r5 := hcell 5
    have r6 := hcell 6
    have r7 := hcell 7
    have r8 := hcell 8
    simp at r0 r1 r2 r3 r4 r5 r6 r7 r8
    clear hcell hblk))
 obtain rfl : n' = l := by simpa using hn'
 go_wp2
 refine bodyPost_ret (v := .agg #[.int .i64 a, .string nm, .int .i64 v, .int .i64 o, .int .u32 s, .int .i64 n, .int .u32 t, .int .i64 ao, .slice A' n' c']) (by simp [results, Tryz.results85, go_sem, r0, r1, r2, r3, r4, r5, r6, r7, r8]) rfl ⟨A', c', rfl, ?_, ((Below.refl _ w).alloc (Nat.le_refl _) _).trans (Below.mono (by assumption : KQ (w.heap.size + 1) _ _).1 (Nat.le_succ _))⟩
 refine Ow.base (base := w.heap.size + 2) ?_ (by omega)
 repeat (with_reducible refine Ow.setCell ?_ (by simp) _)
 simpa using hown
theorem infoPart : (Tryz.prog.info? 159).map (fun i => (i.zero, i.size, i.bytes)) = some (some (.agg #[.string ⟨#[]⟩, .int .i64 0, .string ⟨#[]⟩, .int .i64 0, .int .i64 0, .int .u32 0, .int .i64 0, .int .u32 0, .int .i64 0, .slice none 0 0]), 10, 112) := by kernel_rfl
theorem ePart : ElemInfo Tryz.prog 43 159 10 112 := by
 obtain ⟨i, hi, h0, h1, h2⟩ := info_parts infoPart
 exact ⟨Tryz.underlying43, ⟨i, _, hi, h0, h1, h2, rfl⟩, by decide⟩
theorem txto_any (x : Im) (v : Vm) (tn : Bool) (A : Option Addr) (n c : Nat) (ps : List Pe) (w : World) (hA : RdE w w.heap.size A n ps) (hn : n ≤ 1000) (hl : ∀ p ∈ ps, p.l ≤ 4096) :
 Calls Tryz.prog 43 #[.agg #[.int .i64 x.1, .int .u32 x.2, .int .u32 v.d0, .int .u32 v.d1, .int .u32 v.d2, .int .u32 v.d3, .int .u32 v.d4, .int .u32 v.d5, .int .u32 v.d6, .int .u32 v.d7, .bool tn, .slice A n c]] w
  fun e w' => ∃ A' c' qs, e = .returned (.agg #[.int .i64 x.1, .int .u32 x.2, .int .u32 v.d0, .int .u32 v.d1, .int .u32 v.d2, .int .u32 v.d3, .int .u32 v.d4, .int .u32 v.d5, .int .u32 v.d6, .int .u32 v.d7, .bool tn, .slice A' n c']) ∧ OwE 159 w' w.heap.size A' n c' qs ∧ qs.map Pe.core = ps.map Pe.core ∧ Below w.heap.size w w' := by
 go_enter Tryz.func43, Tryz.ntmps43
 go_wp2
 go_loopg [4] (n + 1) (fun g i wr => ∃ (k : Nat) (A' : Option Addr) (c' : Nat) (qs : List Pe), k ≤ n ∧ g = n + 1 - k ∧ i = .int .i64 k ∧ qs.map Pe.core = (ps.take k).map Pe.core ∧
  wr.heap[w.heap.size + 1 + 1]? = some (.cells #[.int .i64 x.1, .int .u32 x.2, .int .u32 v.d0, .int .u32 v.d1, .int .u32 v.d2, .int .u32 v.d3, .int .u32 v.d4, .int .u32 v.d5, .int .u32 v.d6, .int .u32 v.d7, .bool tn, .slice A' k c'] 45 (0, 0)) ∧ Ow wr (w.heap.size + 3) 159 10 (.slice A' k c') (qs.map Pe.enc) ∧
  (∀ q ∈ qs, Ow wr w.heap.size 131 3 (.slice q.A q.l q.c) (q.e.tags.map Tm.enc)) ∧
  Below (w.heap.size + 2) ((w.alloc (.cells #[.int .i64 x.1, .int .u32 x.2, .int .u32 v.d0, .int .u32 v.d1, .int .u32 v.d2, .int .u32 v.d3, .int .u32 v.d4, .int .u32 v.d5, .int .u32 v.d6, .int .u32 v.d7, .bool tn, .slice A n c] 31)).alloc (.cells #[.int .i64 0, .int .u32 0, .int .u32 0, .int .u32 0, .int .u32 0, .int .u32 0, .int .u32 0, .int .u32 0, .int .u32 0, .int .u32 0, .bool false, .slice none 0 0] 45)) wr)
 case atStart =>
  refine ⟨0, none, 0, [], Nat.zero_le _, rfl, rfl, rfl, jT _ _ (by simp), Ow.nil_ _ _ _ _, by simp, (Below.refl _ _).alloc (by simp) _⟩
 case round =>
  obtain ⟨k, A', c', qs, hk, rfl, rfl, hqs, hblk, hown, hok, hbr⟩ := hrel
  have hb0 : Below (w.heap.size + 1) (w.alloc (.cells #[.int .i64 x.1, .int .u32 x.2, .int .u32 v.d0, .int .u32 v.d1, .int .u32 v.d2, .int .u32 v.d3, .int .u32 v.d4, .int .u32 v.d5, .int .u32 v.d6, .int .u32 v.d7, .bool tn, .slice A n c] 31)) wr := ((Below.refl _ _).alloc (by simp) _).trans (hbr.mono (Nat.le_succ _))
  obtain ⟨hc0, _⟩ := bcell hbr
  have hbl := jB hblk
  have hql : qs.length = k := by simpa using hown.rd.2.1
  obtain ⟨_, hf0⟩ := bcell hbr
  have hz1 : w.heap.size < wr.heap.size := by omega
  have hz2 : w.heap.size + 1 < wr.heap.size := by omega
  have o11 := jA hblk 11
  simp at o11
  have hfro := jE hblk
  by_cases hlt : k < n
  ·
   obtain ⟨bA, oA, p, rfl, hbA, hp, hcp⟩ := hA.1.at_ hlt
   have p0 := hcp 0 _ rfl
   have p1 := hcp 1 _ rfl
   have p2 := hcp 2 _ rfl
   have p3 := hcp 3 _ rfl
   have p4 := hcp 4 _ rfl
   have p5 := hcp 5 _ rfl
   have p6 := hcp 6 _ rfl
   have p7 := hcp 7 _ rfl
   have p8 := hcp 8 _ rfl
   have p9 := hcp 9 _ rfl
   rw [Nat.add_zero] at p0
   clear hcp
   have hbA2 : bA < w.heap.size + 2 := by omega
   have hpl := hl p (List.mem_of_getElem? hp)
   have hTp : Rd wr wr.heap.size 3 p.A p.l (p.e.tags.map Tm.enc) := ((hA.2 p (List.mem_of_getElem? hp)).below (((Below.refl _ w).alloc (Nat.le_refl _) _).trans (hb0.mono (Nat.le_succ _)))).more (by omega)
   go_upto_block 1 with fail
   have hqsH := jH hqs
   have hpH := jH hp
   clear hqs hp
   have hq0 : KQ (w.heap.size + 1) (w.alloc (.cells #[.int .i64 x.1, .int .u32 x.2, .int .u32 v.d0, .int .u32 v.d1, .int .u32 v.d2, .int .u32 v.d3, .int .u32 v.d4, .int .u32 v.d5, .int .u32 v.d6, .int .u32 v.d7, .bool tn, .slice (some ⟨bA, oA, none⟩) n c] 31)) wr := kq hb0
   go_cut [4] (fun s4 wx => s4 = .int .i64 k ∧ ∃ (A2 : Option Addr) (c2 : Nat) (q : Pe), q.core = p.core ∧
    wx.heap[w.heap.size + 1 + 1]? = some (.cells #[.int .i64 x.1, .int .u32 x.2, .int .u32 v.d0, .int .u32 v.d1, .int .u32 v.d2, .int .u32 v.d3, .int .u32 v.d4, .int .u32 v.d5, .int .u32 v.d6, .int .u32 v.d7, .bool tn, .slice A2 (k + 1) c2] 45 (0, 0)) ∧ Ow wx (w.heap.size + 3) 159 10 (.slice A2 (k + 1) c2) ((qs ++ [q]).map Pe.enc) ∧
    (∀ q' ∈ qs ++ [q], Ow wx w.heap.size 131 3 (.slice q'.A q'.l q'.c) (q'.e.tags.map Tm.enc)) ∧ Below (w.heap.size + 2) ((w.alloc (.cells #[.int .i64 x.1, .int .u32 x.2, .int .u32 v.d0, .int .u32 v.d1, .int .u32 v.d2, .int .u32 v.d3, .int .u32 v.d4, .int .u32 v.d5, .int .u32 v.d6, .int .u32 v.d7, .bool tn, .slice (some ⟨bA, oA, none⟩) n c] 31)).alloc (.cells #[.int .i64 0, .int .u32 0, .int .u32 0, .int .u32 0, .int .u32 0, .int .u32 0, .int .u32 0, .int .u32 0, .int .u32 0, .int .u32 0, .bool false, .slice none 0 0] 45)) wx)
   case first =>
    go_wp2_with fail
    refine jW (fun w' => KQ (w.heap.size + 1) (w.alloc (.cells #[.int .i64 x.1, .int .u32 x.2, .int .u32 v.d0, .int .u32 v.d1, .int .u32 v.d2, .int .u32 v.d3, .int .u32 v.d4, .int .u32 v.d5, .int .u32 v.d6, .int .u32 v.d7, .bool tn, .slice (some ⟨bA, oA, none⟩) n c] 31)) w') (fun w' => w'.cell? ⟨w.heap.size + 1 + 1, 11, none⟩ = some (.slice A' k c')) 17 (by kernel_rfl) (kq hb0.drew) o11 ?_
    intro hcl
    have hC : KQ (w.heap.size + 1) (w.alloc (.cells #[.int .i64 x.1, .int .u32 x.2, .int .u32 v.d0, .int .u32 v.d1, .int .u32 v.d2, .int .u32 v.d3, .int .u32 v.d4, .int .u32 v.d5, .int .u32 v.d6, .int .u32 v.d7, .bool tn, .slice (some ⟨bA, oA, none⟩) n c] 31)) wr.drew := kq hb0.drew
    have hE : wr.drew.cell? ⟨w.heap.size + 1 + 1, 11, none⟩ = some (.slice A' k c') := o11
    (refine mT 0 ?_ rfl hcl hC hE ?_ ?_; rotate_left; (· (intro w hSw; (try dsimp only at hSw); go_simp; (try with_reducible rfl))); clear hcl; intro hcl; (try simp only [Act.put, List.getElem_toArray, List.getElem_cons_zero, List.setIfInBounds_toArray, List.set_cons_zero, List.set_cons_succ]))
    (refine wpM_take0 (i := 1) (v := ?_) rfl rfl (by kernel_rfl) (by kernel_rfl) (by kernel_rfl) (by kernel_rfl) (by decide) (fun _ _ _ h => h) hcl hC (fun _ => hE) (Or.inl ⟨by rfl, ?_⟩) ?_; rotate_left; (· (intro w hSw; (try dsimp only at hSw); go_simp; (try with_reducible rfl))); clear hcl; intro hcl; (try simp only [Act.put, nA, nB, nC, nD, nE, nF]))
    (refine mT 2 ?_ rfl hcl hC hE ?_ ?_; rotate_left; (· (intro w hSw; (try dsimp only at hSw); go_simp; (try with_reducible rfl))); clear hcl; intro hcl; (try simp only [Act.put, nA, nB, nC, nD, nE, nF]))
    (refine mT 3 ?_ rfl hcl hC hE ?_ ?_; rotate_left; (· (intro w hSw; (try dsimp only at hSw); go_simp; (try with_reducible rfl))); clear hcl; intro hcl; (try simp only [Act.put, nA, nB, nC, nD, nE, nF]))
    (refine mT 4 ?_ rfl hcl hC hE ?_ ?_; rotate_left; (· (intro w hSw; (try dsimp only at hSw); go_simp; (try with_reducible rfl))); clear hcl; intro hcl; (try simp only [Act.put, nA, nB, nC, nD, nE, nF]))
    (refine mT 5 ?_ rfl hcl hC hE ?_ ?_; rotate_left; (· (intro w hSw; (try dsimp only at hSw); go_simp; (try with_reducible rfl))); clear hcl; intro hcl; (try simp only [Act.put, nA, nB, nC, nD, nE, nF]))
    (refine mT 6 ?_ rfl hcl hC hE ?_ ?_; rotate_left; (· (intro w hSw; (try dsimp only at hSw); go_simp; (try with_reducible rfl))); clear hcl; intro hcl; (try simp only [Act.put, nA, nB, nC, nD, nE, nF]))
    (refine mT 7 ?_ rfl hcl hC hE ?_ ?_; rotate_left; (· (intro w hSw; (try dsimp only at hSw); go_simp; (try with_reducible rfl))); clear hcl; intro hcl; (try simp only [Act.put, nA, nB, nC, nD, nE, nF]))
    (refine mT 8 ?_ rfl hcl hC hE ?_ ?_; rotate_left; (· (intro w hSw; (try dsimp only at hSw); go_simp; (try with_reducible rfl))); clear hcl; intro hcl; (try simp only [Act.put, nA, nB, nC, nD, nE, nF]))
    (refine mT 9 ?_ rfl hcl hC hE ?_ ?_; rotate_left; (· (intro w hSw; (try dsimp only at hSw); go_simp; (try with_reducible rfl))); clear hcl; intro hcl; (try simp only [Act.put, nA, nB, nC, nD, nE, nF]))
    (refine mT 10 ?_ rfl hcl hC hE ?_ ?_; rotate_left; (· (intro w hSw; (try dsimp only at hSw); go_simp; (try with_reducible rfl))); clear hcl; intro hcl; (try simp only [Act.put, nA, nB, nC, nD, nE, nF]))
    (refine mT 11 ?_ rfl hcl hC hE ?_ ?_; rotate_left; (· (intro w hSw; (try dsimp only at hSw); go_simp; (try with_reducible rfl))); clear hcl; intro hcl; (try simp only [Act.put, nA, nB, nC, nD, nE, nF]))
    (refine mT 12 ?_ rfl hcl hC hE ?_ ?_; rotate_left; (· (intro w hSw; (try dsimp only at hSw); go_simp; (try with_reducible rfl))); clear hcl; intro hcl; (try simp only [Act.put, nA, nB, nC, nD, nE, nF]))
    (refine mT 13 ?_ rfl hcl hC hE ?_ ?_; rotate_left; (· (intro w hSw; (try dsimp only at hSw); go_simp; (try with_reducible rfl))); clear hcl; intro hcl; (try simp only [Act.put, nA, nB, nC, nD, nE, nF]))
    refine jK (i := 14) rfl (by kernel_rfl) hcl (fun K hK => ?_)
    go_simp
    refine (feffl_any _ _ _ _ _ _ _ _ _ _ _ p.e.tags _ (by exact hTp) hpl).mono ?_
    rintro e w1 ⟨A1, c1, rfl, hr1, hb1⟩
    have hb1' : Below wr.heap.size wr w1 := ((Below.refl _ wr).drew).trans hb1
    have hblk1 := jD hblk hb1'
    have o11' := jA hblk1 11
    simp at o11'
    have hbl1 := jB hblk1
    refine hK.out _ _ (kq (hC.1.trans (hb1.mono (by show _ ≤ wr.heap.size; omega)))) o11' ?_
    clear hK K hC hE hcl
    intro hcl
    have hC : KQ (w.heap.size + 1) (w.alloc (.cells #[.int .i64 x.1, .int .u32 x.2, .int .u32 v.d0, .int .u32 v.d1, .int .u32 v.d2, .int .u32 v.d3, .int .u32 v.d4, .int .u32 v.d5, .int .u32 v.d6, .int .u32 v.d7, .bool tn, .slice (some ⟨bA, oA, none⟩) n c] 31)) w1 := kq (hb0.trans (hb1'.mono (by omega)))
    have hE : w1.cell? ⟨w.heap.size + 1 + 1, 11, none⟩ = some (.slice A' k c') := o11'
    (try simp only [Act.put, List.setIfInBounds_toArray, List.set_cons_zero, List.set_cons_succ])
    (refine mT 15 ?_ rfl hcl hC hE ?_ ?_; rotate_left; (· (intro w hSw; (try dsimp only at hSw); go_simp; (try with_reducible rfl))); clear hcl; intro hcl; (try simp only [Act.put, nA, nB, nC, nD, nE, nF]))
    refine jK (i := 16) rfl (by kernel_rfl) hcl (fun K hK => ?_)
    go_simp
    have hb2 : Below wr.heap.size wr (w1.alloc (.cells #[.string (bs p.key), .int .i64 p.e.act, .string (bs p.e.name), .int .i64 p.e.val, .int .i64 p.e.tag.1.1, .int .u32 p.e.tag.1.2, .int .i64 p.e.tag.2, .int .u32 p.e.st.1, .int .i64 p.e.st.2, .slice A1 p.l c1] 159)) := hb1'.alloc hb1'.size _
    have hz1 := hb1'.size
    refine hK.out _ _ (kq_alloc hC (by simp) _) ((World.cell?_alloc_lt _ _ _ hbl1).trans hE) ?_
    clear hK K hE hcl
    intro hcl
    have hC := kq_alloc hC (by simp) (.cells #[.string (bs p.key), .int .i64 p.e.act, .string (bs p.e.name), .int .i64 p.e.val, .int .i64 p.e.tag.1.1, .int .u32 p.e.tag.1.2, .int .i64 p.e.tag.2, .int .u32 p.e.st.1, .int .i64 p.e.st.2, .slice A1 p.l c1] 159)
    (try simp only [Act.put, List.setIfInBounds_toArray, List.set_cons_zero, List.set_cons_succ])
    refine wpM_last (i := 17) rfl (by kernel_rfl) hcl (by kernel_rfl) (fun K hK => ?_)
    refine step_append_rd _ rfl _ _ _ rfl ePart (base := w.heap.size + 3) (v := .slice A' k c') (xs := qs.map Pe.enc) rfl (hown.below hb2) rfl (Rd.one' [.string (bs p.key), .int .i64 p.e.act, .string (bs p.e.name), .int .i64 p.e.val, .int .i64 p.e.tag.1.1, .int .u32 p.e.tag.1.2, .int .i64 p.e.tag.2, .int .u32 p.e.st.1, .int .i64 p.e.st.2, .slice A1 p.l c1] rfl) (by simp) (by simp [Value.oneCell'])
     (by simp [maxLen]; omega) (by simp; omega) (by simp; omega) ?_
    intro A2 n2 c2 w2 hn2 hown2 hg2 hat2
    obtain rfl : n2 = k + 1 := by rw [hn2]; simp [hql]
    clear hn2
    obtain ⟨hblk2, hcell2, hfro2⟩ := grown_cells (b := w.heap.size + 1 + 1) hg2 (yE _ hbl1 hblk1) (fun e => by have := hown.block _ e.symm; omega)
    have o112 := hcell2 11
    simp at o112
    have hC2 := yB hC (by simp) hg2 (fun g e => by have := (hown.block g e).1; omega)
    have hb3 : Below (w.heap.size + 2) wr w2 := (hb2.mono (by omega)).grown hg2 (by simp; omega) (fun g e => by have := (hown.block g e).1; omega)
    refine hK.out _ _ hC2 ?_
    clear hK K hC hcl
    intro hcl
    have hC := hC2
    (try simp only [Act.put, List.setIfInBounds_toArray])
    (refine wpM_takeX (i := 18) (v := ?_) rfl (by kernel_rfl) (by kernel_rfl) (by kernel_rfl) (by decide) (fun _ _ _ h => h) hcl hC (by kernel_rfl) (Or.inl ⟨by rfl, ?_⟩) ?_; rotate_left; (· (intro w hSw; (try dsimp only at hSw); go_simp; (try with_reducible rfl))); clear hcl; intro hcl; (try simp only [Act.put, nA, nB, nC, nD, nE, nF]))
    refine wpM_last (i := 19) rfl (by kernel_rfl) hcl (by kernel_rfl) (fun K hK => ?_)
    go_simp
    refine hK.out _ _ (kq_set hC (by simp) _) ?_
    clear hK K hC hcl
    intro hcl
    refine wpM_done (by kernel_rfl) ?_
    clear hcl
    go_wp2_with fail
    go_meet
    have hq : ∀ q' ∈ qs ++ [({ p with A := A1, c := c1 } : Pe)], Ow w2 w.heap.size 131 3 (.slice q'.A q'.l q'.c) (q'.e.tags.map Tm.enc) := by
     intro q' hq'
     refine Ow.other (w := w1.alloc (.cells #[.string (bs p.key), .int .i64 p.e.act, .string (bs p.e.name), .int .i64 p.e.val, .int .i64 p.e.tag.1.1, .int .u32 p.e.tag.1.2, .int .i64 p.e.tag.2, .int .u32 p.e.st.1, .int .i64 p.e.st.2, .slice A1 p.l c1] 159)) ?_ (hown.below hb2) (by decide) hg2
     rcases List.mem_append.1 hq' with h1 | h1
     ·
      exact (hok q' h1).below hb2
     ·
      obtain rfl := List.mem_singleton.1 h1
      exact (hr1.base (by show _ ≤ wr.heap.size; omega)).below ((Below.refl _ w1).alloc (Nat.le_refl _) _)
    refine ⟨rfl, A2, c2, { p with A := A1, c := c1 }, rfl, ?_, ?_, fun q' hq' => (hq q' hq').set_blk hblk2 (by decide) _ _, ?_⟩
    ·
     rw [jO hblk2 11]; simp
    ·
     rw [List.map_append]; exact hown2.setCell (by simp) _
    ·
     exact (hbr.trans hb3).setCell (by simp) _
   case rest =>
    obtain ⟨rfl, A2, c2, q, hqc, hblkx, hownx, hokx, hbx⟩ := hcut
    go_wp2
    go_roundg (n + 1 - (k + 1))
    case measure => omega
    case rel =>
     refine ⟨k + 1, A2, c2, qs ++ [q], by omega, rfl, by go_num, ?_, hblkx, hownx, hokx, hbx⟩
     rw [List.map_append, hqsH.out, List.take_add_one, hpH.out]
     simp [hqc]
  ·
   obtain rfl : k = n := by omega
   have o0 := jA hblk 0
   have o1 := jA hblk 1
   have o2 := jA hblk 2
   have o3 := jA hblk 3
   have o4 := jA hblk 4
   have o5 := jA hblk 5
   have o6 := jA hblk 6
   have o7 := jA hblk 7
   have o8 := jA hblk 8
   have o9 := jA hblk 9
   have o10 := jA hblk 10
   simp at o0 o1 o2 o3 o4 o5 o6 o7 o8 o9 o10
   have hqsH := jH hqs
   clear hqs
   have r0 := hc0 (w.heap.size + 1) 0 (by omega)
   have r1 := hc0 (w.heap.size + 1) 1 (by omega)
   have r2 := hc0 (w.heap.size + 1) 2 (by omega)
   have r3 := hc0 (w.heap.size + 1) 3 (by omega)
   have r4 := hc0 (w.heap.size + 1) 4 (by omega)
   have r5 := hc0 (w.heap.size + 1) 5 (by omega)
   have r6 := hc0 (w.heap.size + 1) 6 (by omega)
   have r7 := hc0 (w.heap.size + 1) 7 (by omega)
   have r8 := hc0 (w.heap.size + 1) 8 (by omega)
   have r9 := hc0 (w.heap.size + 1) 9 (by omega)
   have r10 := hc0 (w.heap.size + 1) 10 (by omega)
   have r11 := hc0 (w.heap.size + 1) 11 (by omega)
   simp at r0 r1 r2 r3 r4 r5 r6 r7 r8 r9 r10 r11
   have hres : wr.heap[w.heap.size + 1]? = some (.cells #[.int .i64 0, .int .u32 0, .int .u32 0, .int .u32 0, .int .u32 0, .int .u32 0, .int .u32 0, .int .u32 0, .int .u32 0, .int .u32 0, .bool false, .slice none 0 0] 45) := (hbr.block _ (by omega)).trans (jT _ _ (by simp))
   have hps : Hid (ps.take k = ps) := List.take_of_length_le (by have := hA.1.len; omega)
   have hf1 : w.heap.size + 1 < w.heap.size + 2 := by omega
   go_wp2
   refine bodyPost_ret (v := .agg #[.int .i64 x.1, .int .u32 x.2, .int .u32 v.d0, .int .u32 v.d1, .int .u32 v.d2, .int .u32 v.d3, .int .u32 v.d4, .int .u32 v.d5, .int .u32 v.d6, .int .u32 v.d7, .bool tn, .slice A' k c']) (by simp [results, Tryz.results43, go_sem, r0, r1, r2, r3, r4, r5, r6, r7, r8, r9, r10, r11]) rfl ⟨A', c', qs, rfl, ⟨?_, fun q hq => ?_⟩, ?_, ?_⟩
   ·
    refine Ow.base (base := w.heap.size + 3) ?_ (by omega)
    (repeat (with_reducible refine Ow.setCell ?_ (by simp) _))
    exact hown
   ·
    refine Ow.other_blk (hok q hq) hres (by decide) ?_
    (repeat (with_reducible refine grown_set ?_ _ _))
    try exact World.grownBy.refl wr _
   ·
    rw [hqsH.out, hps.out]
   ·
    repeat (with_reducible refine Below.setCell ?_ (by simp) _)
    exact (((Below.refl _ w).alloc (Nat.le_refl _) _).alloc (by simp) _).trans (hbr.mono (by omega))
end Go.Proofs.YtfhandglpjnonaaGreatDoor
