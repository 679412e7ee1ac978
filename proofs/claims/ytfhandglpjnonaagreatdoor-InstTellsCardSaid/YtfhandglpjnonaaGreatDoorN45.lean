/- tx.own, tx.Only: a transaction with the parts of some keys alone. Is a name within a vector? (both). Time and Sees of transactions, both; the statements' own wanted and only. Helpers of the statements on transactions: parts left by keys, parts of the same values. -/
import Derived.Test.YtfhandglpjnonaaGreatDoorM39
import Derived.Test.YtfhandglpjnonaaGreatDoorN14
import Derived.Test.YtfhandglpjnonaaGreatDoorM25
import Derived.Deep.RegionWith
import Derived.Test.YtfhandglpjnonaaGreatDoorM29
import Derived.Test.YtfhandglpjnonaaGreatDoorM40
import Derived.Test.YtfhandglpjnonaaGreatDoorM46
namespace Go.Proofs.YtfhandglpjnonaaGreatDoor
open Go.RowKit

end Go.Proofs.YtfhandglpjnonaaGreatDoor
namespace Go.Proofs.YtfhandglpjnonaaGreatDoor
open Go.RowKit

end Go.Proofs.YtfhandglpjnonaaGreatDoor
namespace Go.Proofs.YtfhandglpjnonaaGreatDoor
open Go.RowKit

/-- The last time of parts' stamps. -/
def timeT (ps : List Pv) : Int := ps.foldl (fun m p => if m < p.2.st.1 then p.2.st.1 else m) 0
def seesT (x : Im) (v : Vm) (y : Im) : Bool := (decide (y.1 = x.1) && decide (y.2 = x.2)) || hasV v y
def wantK (ks : List (List UInt8)) (k : List UInt8) : Bool := ks.any fun x => decide (x = k)
/-- What is left of parts by keys; whether it is thin then. -/
def leavePs (ps : List Pv) (ks : List (List UInt8)) (b : Bool) : List Pv := ps.filter fun p => wantK ks p.1 == b
def leaveT (t : Bool) (ps : List Pv) (ks : List (List UInt8)) (b : Bool) : Bool := t || ps.any fun p => !(wantK ks p.1 == b)
theorem timeT_step (ps : List Pe) {k : Nat} {p : Pe} (h : ps[k]? = some p) : timeT ((ps.take (k + 1)).map Pe.core) = if timeT ((ps.take k).map Pe.core) < p.e.st.1 then p.e.st.1 else timeT ((ps.take k).map Pe.core) := by
  unfold timeT
  rw [List.take_add_one, h, List.map_append, List.foldl_append]
  rfl
end Go.Proofs.YtfhandglpjnonaaGreatDoor
namespace Go.Proofs.YtfhandglpjnonaaGreatDoor
open Go.RowKit

theorem leavePs_map (ps : List Pe) (xs : List (List UInt8)) (q : Bool) : (ps.filter fun p => wantK xs p.key == q).map Pe.core = leavePs (ps.map Pe.core) xs q := by
  unfold leavePs
  rw [List.filter_map]
  rfl
theorem leavePs_sub (ps : List Pv) (xs : List (List UInt8)) (q : Bool) : ∀ p ∈ leavePs ps xs q, p ∈ ps := fun _ hp => (List.mem_filter.1 hp).1
theorem leavePs_len (ps : List Pv) (xs : List (List UInt8)) (q : Bool) : (leavePs ps xs q).length ≤ ps.length := List.length_filter_le _ _
theorem sameTv_self (a : Tv) : sameTv a a = true := sameTv_iff.2 rfl
/-- Parts of the same values fit as well. -/
theorem fit_of {w : World} {n : Nat} {A : Option Addr} {ps qs : List Pe} {a b : Nat} (hr : RdE w w.heap.size A n qs) (hc : qs.map Pe.core = ps.map Pe.core)
    (hp : ∀ p ∈ ps, p.e.wf ∧ p.key.length ≤ maxLen ∧ p.e.name.length ≤ maxLen ∧ p.l ≤ maxLen) (ho : okPs a b (ps.map Pe.core)) (hb : b ≤ 100000) : ∀ q ∈ qs, q.Fit w := fun q hq => by
  have hm : q.core ∈ ps.map Pe.core := by rw [← hc]; exact List.mem_map.2 ⟨q, hq, rfl⟩
  obtain ⟨p, hpm, he⟩ := List.mem_map.1 hm
  obtain ⟨h1, h2, h3, -⟩ := hp p hpm
  have e1 : q.key = p.key := (congrArg Prod.fst he).symm
  have e2 : q.e = p.e := (congrArg Prod.snd he).symm
  exact ⟨hr.2 q hq, e2 ▸ h1, e1 ▸ h2, e2 ▸ h3, Nat.le_trans (okPs.le (by rw [hc]; exact ho) hr q hq) hb⟩
end Go.Proofs.YtfhandglpjnonaaGreatDoor
