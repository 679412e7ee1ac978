/- errors.As at a fault and at nothing (turned from the worked text on errors.As). What an error of the reader says, in the document's words. -/
import Derived.Test.YtfhandglpjnonaaGreatDoorRows
import Derived.WalkKit
import Derived.LaidEql
import Derived.Stop.Asserts
import Derived.RowKitTokens
import Derived.Test.YtfhandglpjnonaaGreatDoorN36
set_option maxRecDepth 100000
set_option maxHeartbeats 16000000
namespace Go.Proofs.YtfhandglpjnonaaGreatDoor
open Go.RowKit Go.Extern.Stop Go.Stop Go.Extern
theorem Tryz.valueOf27 (t : Addr) (w : World) : (ReflectliteValue.unpack (.iface 127 (.pointer (some t)))).run Tryz.prog w
 = .ok (.agg #[.pointer (some ⟨4, 127, none⟩), .pointer (some ⟨w.heap.size, 0, none⟩), .int .u64 150]) (w.alloc (.cells #[.pointer (some t)] 127)) := by kernel_rfl
theorem Tryz.type27 (a : Addr) (w : World) : (ReflectliteValue.methodAny (ReflectliteValue.valueError "reflectlite.Value.Type" 0) (fun t _ _ _ => ReflectliteType.toType t) #[.agg #[.pointer (some ⟨4, 127, none⟩), .pointer (some a), .int .u64 150]]).run Tryz.prog w
 = .ok (.iface 225 (.agg #[.pointer (some ⟨4, 127, none⟩)])) w := by kernel_rfl
theorem Tryz.methodKind (h : Value) (w : World) : (Go.method 406 225 (.agg #[h]) "Kind").run Tryz.prog w = .ok (205, h) w := by kernel_rfl
theorem Tryz.kind27 (w : World) : ((ReflectliteType.abiMethod fun t => (fun a : Nat => Value.int IntKind.u8 (a : Int)) <$> Rtype.kind t) #[.pointer (some ⟨4, 127, none⟩)]).run Tryz.prog w = .ok (.int .u8 22) w := by kernel_rfl
theorem Tryz.kind25 (w : World) : ((ReflectliteType.abiMethod fun t => (fun a : Nat => Value.int IntKind.u8 (a : Int)) <$> Rtype.kind t) #[.pointer (some ⟨4, 125, none⟩)]).run Tryz.prog w = .ok (.int .u8 22) w := by kernel_rfl
theorem rlm (z : Sem Value) (f : TypeId → Addr → Nat → Nat → Sem Value) (v : Value) :
 ReflectliteValue.method z f #[v] = (do match ← ReflectliteValue.parts v with | none => z | some (t, a, fl) => f t a fl (fl % 32)) := rfl
theorem Tryz.parts27 (a : Addr) (w : World) : (ReflectliteValue.parts (.agg #[.pointer (some ⟨4, 127, none⟩), .pointer (some a), .int .u64 150])).run Tryz.prog w = .ok (some (127, a, 150)) w := by kernel_rfl
theorem Tryz.isNil27 (a p : Addr) (W : World) (ha : W.cell? a = some (.pointer (some p))) :
 (ReflectliteValue.method (ReflectliteValue.valueError "reflectlite.Value.IsNil" 0) ReflectliteValue.isNil #[.agg #[.pointer (some ⟨4, 127, none⟩), .pointer (some a), .int .u64 150]]).run Tryz.prog W = .ok (.bool false) W := by
 rw [rlm]
 simp only [Sem.run_bind, Tryz.parts27, Result.andThen]
 simp [ReflectliteValue.isNil, loadVar, isAgg, underlying, Tryz.underlying127, ha, Result.andThen]
theorem Tryz.methodElem (h : Value) (w : World) : (Go.method 406 225 (.agg #[h]) "Elem").run Tryz.prog w = .ok (219, .agg #[h]) w := by kernel_rfl
theorem Tryz.methodImplements (h : Value) (w : World) : (Go.method 406 225 (.agg #[h]) "Implements").run Tryz.prog w = .ok (220, .agg #[h]) w := by kernel_rfl
theorem Tryz.methodAssignableTo (h : Value) (w : World) : (Go.method 406 225 (.agg #[h]) "AssignableTo").run Tryz.prog w = .ok (217, .agg #[h]) w := by kernel_rfl
theorem Tryz.elem27 (w : World) : (ReflectliteType.method ReflectliteType.elem #[.agg #[.pointer (some ⟨4, 127, none⟩)]]).run Tryz.prog w = .ok (.iface 225 (.agg #[.pointer (some ⟨4, 125, none⟩)])) w := by kernel_rfl
theorem Tryz.implements25 (w : World) : (ReflectliteType.relation "Implements" ReflectliteType.implements_ #[.agg #[.pointer (some ⟨4, 125, none⟩)], .iface 225 (.agg #[.pointer (some ⟨4, 65, none⟩)])]).run Tryz.prog w = .ok (.bool true) w := by kernel_rfl
theorem Tryz.typeOf25 (v : Value) (w : World) : (ReflectliteType.typeOf #[.iface 125 v]).run Tryz.prog w = .ok (.iface 225 (.agg #[.pointer (some ⟨4, 125, none⟩)])) w := by kernel_rfl
theorem Tryz.assignable25 (w : World) : (ReflectliteType.relation "AssignableTo" ReflectliteType.assignableTo #[.agg #[.pointer (some ⟨4, 125, none⟩)], .iface 225 (.agg #[.pointer (some ⟨4, 125, none⟩)])]).run Tryz.prog w = .ok (.bool true) w := by kernel_rfl
theorem Tryz.valueOf25 (e : Addr) (w : World) : (ReflectliteValue.unpack (.iface 125 (.pointer (some e)))).run Tryz.prog w
 = .ok (.agg #[.pointer (some ⟨4, 125, none⟩), .pointer (some ⟨w.heap.size, 0, none⟩), .int .u64 150]) (w.alloc (.cells #[.pointer (some e)] 125)) := by kernel_rfl
theorem Tryz.elemOf27 (w : World) : (Rtype.elem? 127).run Tryz.prog w = .ok (some 125) w := by kernel_rfl
theorem Tryz.mk25 (p : Addr) (w : World) : (ReflectliteValue.mk 125 p ReflectliteValue.flagAddr).run Tryz.prog w = .ok (.agg #[.pointer (some ⟨4, 125, none⟩), .pointer (some p), .int .u64 406]) w := by kernel_rfl
theorem Tryz.elemV27 (a p : Addr) (W : World) (ha : W.cell? a = some (.pointer (some p))) :
 (ReflectliteValue.method (ReflectliteValue.valueError "reflectlite.Value.Elem" 0) ReflectliteValue.elem #[.agg #[.pointer (some ⟨4, 127, none⟩), .pointer (some a), .int .u64 150]]).run Tryz.prog W
  = .ok (.agg #[.pointer (some ⟨4, 125, none⟩), .pointer (some p), .int .u64 406]) W := by
 rw [rlm]
 simp only [Sem.run_bind, Tryz.parts27, Result.andThen]
 simp [ReflectliteValue.elem, loadVar, isAgg, underlying, Tryz.underlying127, ha, Result.andThen, Tryz.elemOf27, Tryz.mk25]
theorem rls (v x : Value) : ReflectliteValue.set #[v, x] = (do
 let (some (dst, a, fl), some (src, b, _)) := (← ReflectliteValue.parts v, ← ReflectliteValue.parts x)
  | unsupported (.noEntry "extern/(internal/reflectlite.Value).Set.zeroValue")
 if fl / ReflectliteValue.flagAddr % 2 == 0 then unsupported (.noEntry "extern/(internal/reflectlite.Value).Set.unaddressable")
 let val ← loadVar src b
 if ← Rtype.directlyAssignable dst src then storeVar dst a val
 else if ← Rtype.implements dst src then
  if (← Rtype.kind src) == 20 then
   match val with
   | .nilIface => unsupported (.noEntry "extern/reflectlite: a nil value of one interface type handed on as a value of another")
   | _ => storeVar dst a val
  else storeVar dst a (.iface src val)
 else panicString ("reflectlite.Set: value of type " ++ (← Rtype.spelt src) ++ " is not assignable to type " ++ (← Rtype.spelt dst))
 pure (.tuple #[])) := rfl
theorem Tryz.parts25a (a : Addr) (w : World) : (ReflectliteValue.parts (.agg #[.pointer (some ⟨4, 125, none⟩), .pointer (some a), .int .u64 406])).run Tryz.prog w = .ok (some (125, a, 406)) w := by kernel_rfl
theorem Tryz.parts25 (a : Addr) (w : World) : (ReflectliteValue.parts (.agg #[.pointer (some ⟨4, 125, none⟩), .pointer (some a), .int .u64 150])).run Tryz.prog w = .ok (some (125, a, 150)) w := by kernel_rfl
theorem Tryz.direct25 (w : World) : (Rtype.directlyAssignable 125 125).run Tryz.prog w = .ok true w := by kernel_rfl
theorem Tryz.set25 (ta b e : Addr) (old : Value) (W : World) (hb : W.cell? b = some (.pointer (some e))) (ht : W.cell? ta = some old) (hf : W.frozen? ta = false) :
 (ReflectliteValue.set #[.agg #[.pointer (some ⟨4, 125, none⟩), .pointer (some ta), .int .u64 406], .agg #[.pointer (some ⟨4, 125, none⟩), .pointer (some b), .int .u64 150]]).run Tryz.prog W
  = .ok (.tuple #[]) (W.setCell ta (.pointer (some e))) := by
 rw [rls]
 simp only [Sem.run_bind, Tryz.parts25a, Tryz.parts25, Result.andThen]
 simp [ReflectliteValue.flagAddr, loadVar, isAgg, underlying, Tryz.underlying125, hb, Result.andThen, Tryz.direct25, storeVar, Value.cells, storeCells, Addr.add]
 rw [run_store Tryz.prog W ta _ _ (by rfl)]
 simp [ht, hf]
theorem as_hit (e t : Addr) (old : Value) (w : World) (hg : w.cell? ⟨0, 0, none⟩ = some (.iface 225 (.agg #[.pointer (some ⟨4, 65, none⟩)]))) (ht0 : w.cell? t = some old) (hf0 : w.frozen? t = false) :
 Calls Tryz.prog 78 #[.iface 125 (.pointer (some e)), .iface 127 (.pointer (some t))] w fun ev w' => ev = .returned (.bool true) ∧ w' = ((((w.alloc (.cells #[.pointer (some t)] 127)).alloc (.cells #[.pointer (some ⟨4, 127, none⟩), .pointer (some ⟨w.heap.size, 0, none⟩), .int .u64 150] 188)).alloc (.cells #[.pointer (some ⟨4, 127, none⟩), .pointer (some ⟨w.heap.size, 0, none⟩), .int .u64 150] 188)).alloc (.cells #[.pointer (some e)] 125)).setCell t (.pointer (some e)) := by
 have h6 := @run_callFunc_extern Tryz.prog 108 _ (fun args => ReflectliteValue.unpack (args.getD 0 (.tuple #[]))) Tryz.func108 (by kernel_rfl) (by kernel_rfl) (by kernel_rfl) (by kernel_rfl)
 have h7 := @run_callFunc_extern Tryz.prog 109 _ (ReflectliteValue.methodAny (ReflectliteValue.valueError "reflectlite.Value.Type" 0) (fun t _ _ _ => ReflectliteType.toType t)) Tryz.func109 (by kernel_rfl) (by kernel_rfl) (by kernel_rfl) (by kernel_rfl)
 have h8 := @run_callFunc_extern Tryz.prog 110 _ (ReflectliteValue.method (ReflectliteValue.valueError "reflectlite.Value.IsNil" 0) ReflectliteValue.isNil) Tryz.func110 (by kernel_rfl) (by kernel_rfl) (by kernel_rfl) (by kernel_rfl)
 have h27 := @run_callFunc_extern Tryz.prog 205 _ (ReflectliteType.abiMethod fun t => do pure (.int .u8 (← Rtype.kind t))) Tryz.func205 (by kernel_rfl) (by kernel_rfl) (by kernel_rfl) (by kernel_rfl)
 have h37 := @run_callFunc_extern Tryz.prog 219 _ (ReflectliteType.method ReflectliteType.elem) Tryz.func219 (by kernel_rfl) (by kernel_rfl) (by kernel_rfl) (by kernel_rfl)
 have h38 := @run_callFunc_extern Tryz.prog 220 _ (ReflectliteType.relation "Implements" ReflectliteType.implements_) Tryz.func220 (by kernel_rfl) (by kernel_rfl) (by kernel_rfl) (by kernel_rfl)
 have h10 := @run_callFunc_extern Tryz.prog 138 _ ReflectliteType.typeOf Tryz.func138 (by kernel_rfl) (by kernel_rfl) (by kernel_rfl) (by kernel_rfl)
 have h35 := @run_callFunc_extern Tryz.prog 217 _ (ReflectliteType.relation "AssignableTo" ReflectliteType.assignableTo) Tryz.func217 (by kernel_rfl) (by kernel_rfl) (by kernel_rfl) (by kernel_rfl)
 have h11 := @run_callFunc_extern Tryz.prog 139 _ (ReflectliteValue.method (ReflectliteValue.valueError "reflectlite.Value.Elem" 0) ReflectliteValue.elem) Tryz.func139 (by kernel_rfl) (by kernel_rfl) (by kernel_rfl) (by kernel_rfl)
 have h12 := @run_callFunc_extern Tryz.prog 140 _ ReflectliteValue.set Tryz.func140 (by kernel_rfl) (by kernel_rfl) (by kernel_rfl) (by kernel_rfl)
 have tO := Tryz.typeOf25
 have mA := Tryz.methodAssignableTo
 have a25 := Tryz.assignable25
 have v25 := Tryz.valueOf25
 have f6 := Tryz.valueOf27
 have f7 := Tryz.type27
 have mK := Tryz.methodKind
 have mE := Tryz.methodElem
 have mI := Tryz.methodImplements
 have k27 := Tryz.kind27
 have k25 := Tryz.kind25
 have e27 := Tryz.elem27
 have i25 := Tryz.implements25
 have n8 := Tryz.isNil27 ⟨w.heap.size, 0, none⟩ t ((w.alloc (.cells #[.pointer (some t)] 127)).alloc (.cells #[.pointer (some ⟨4, 127, none⟩), .pointer (some ⟨w.heap.size, 0, none⟩), .int .u64 150] 188)) (by simp)
 have hlt : 0 < w.heap.size := by
  rcases Nat.eq_zero_or_pos w.heap.size with h0 | h
  ·
   simp [World.cell?, h0] at hg
  ·
   exact h
 have hg2 : ((w.alloc (.cells #[.pointer (some t)] 127)).alloc (.cells #[.pointer (some ⟨4, 127, none⟩), .pointer (some ⟨w.heap.size, 0, none⟩), .int .u64 150] 188)).cell? ⟨0, 0, none⟩ = some (.iface 225 (.agg #[.pointer (some ⟨4, 65, none⟩)])) := by
  rw [World.cell?_alloc_lt _ _ ⟨0, 0, none⟩ (by simp), World.cell?_alloc_lt _ _ ⟨0, 0, none⟩ hlt]; exact hg
 have htl : t.block < w.heap.size := by
  rcases Nat.lt_or_ge t.block w.heap.size with h | h
  ·
   exact h
  ·
   simp [World.cell?, Array.getElem?_eq_none h] at ht0
 have el := Tryz.elemV27 ⟨w.heap.size, 0, none⟩ t (((w.alloc (.cells #[.pointer (some t)] 127)).alloc (.cells #[.pointer (some ⟨4, 127, none⟩), .pointer (some ⟨w.heap.size, 0, none⟩), .int .u64 150] 188)).alloc (.cells #[.pointer (some ⟨4, 127, none⟩), .pointer (some ⟨w.heap.size, 0, none⟩), .int .u64 150] 188)) (by rw [World.cell?_alloc_lt _ _ ⟨w.heap.size, 0, none⟩ (by simp; omega)]; simp)
 have st := Tryz.set25 t ⟨w.heap.size + 1 + 1 + 1, 0, none⟩ e old ((((w.alloc (.cells #[.pointer (some t)] 127)).alloc (.cells #[.pointer (some ⟨4, 127, none⟩), .pointer (some ⟨w.heap.size, 0, none⟩), .int .u64 150] 188)).alloc (.cells #[.pointer (some ⟨4, 127, none⟩), .pointer (some ⟨w.heap.size, 0, none⟩), .int .u64 150] 188)).alloc (.cells #[.pointer (some e)] 125))
  (by rw [World.cell?_alloc_at _ _ _ _ (by simp)]; rfl)
  (by rw [World.cell?_alloc_lt _ _ t (by simp; omega), World.cell?_alloc_lt _ _ t (by simp; omega), World.cell?_alloc_lt _ _ t (by simp; omega), World.cell?_alloc_lt _ _ t htl]; exact ht0)
  (by rw [World.frozen?_alloc_old _ _ t (by simp; omega), World.frozen?_alloc_old _ _ t (by simp; omega), World.frozen?_alloc_old _ _ t (by simp; omega), World.frozen?_alloc_old _ _ t (Nat.ne_of_lt htl)]; exact hf0)
 go_enter Tryz.func78, Tryz.ntmps78
 go_wp2
 refine wp_loop_rounds 1 ?_
 rw [rounds_succ]
 go_wp2
 go_ret
 exact ⟨rfl, rfl⟩
def VarOk (w : World) : Prop := w.cell? ⟨0, 0, none⟩ = some (.iface 225 (.agg #[.pointer (some ⟨4, 65, none⟩)]))
theorem VarOk.lt {w : World} (h : VarOk w) : 0 < w.heap.size := by
 unfold VarOk at h
 rcases Nat.eq_zero_or_pos w.heap.size with h0 | h'
 ·
  simp [World.cell?, h0] at h
 ·
  exact h'
theorem VarOk.below {w w' : World} {n : Nat} (h : VarOk w) (hb : Below n w w') (hn : 0 < n) : VarOk w' := (hb.cell (p := ⟨0, 0, none⟩) hn).trans h
theorem as_hit2 (e t : Addr) (old : Value) (w : World) (hg : VarOk w) (ht0 : w.cell? t = some old) (hf0 : w.frozen? t = false) :
 Calls Tryz.prog 78 #[.iface 125 (.pointer (some e)), .iface 127 (.pointer (some t))] w fun ev w' => ev = .returned (.bool true) ∧ ∃ W', w' = W'.setCell t (.pointer (some e)) ∧ Below w.heap.size w W' :=
 (as_hit e t old w hg ht0 hf0).mono fun ev w' ⟨h1, h2⟩ => ⟨h1, _, h2, ((((Below.refl _ w).alloc (Nat.le_refl _) _).alloc (by simp) _).alloc (by simp; omega) _).alloc (by simp; omega) _⟩
theorem ta_no (F : Nat) (w : World) : (Instr.typeAssert (.iface 125 (.pointer (some ⟨F, 0, none⟩))) 65 40 true).run Tryz.prog w = .ok (.tuple #[.int .i64 0, .bool false]) w := by kernel_rfl
theorem ta_yes (e : Int) (w : World) : (Instr.typeAssert (.iface 40 (.int .i64 e)) 65 40 true).run Tryz.prog w = .ok (.tuple #[.int .i64 e, .bool true]) w := by kernel_rfl
theorem seen_any (ev : Value) (fa fe : Int) (w : World) (hv : VarOk w) (he : ErrP w ev fa fe) (h0 : 0 ≤ fa) (h1 : fa ≤ 1099511627776) (h2 : fe = 0 → fa = 0) :
 Calls Tryz.prog 23 #[ev] w fun e w' => e = .returned (.agg #[.int .i64 fa, .int .i64 fe]) ∧ Below w.heap.size w w' := by
 have hvl := hv.lt
 rcases he with ⟨rfl, rfl⟩ | ⟨hne, F, rfl, hF⟩
 ·
  obtain rfl := h2 rfl
  go_enter Tryz.func23, Tryz.ntmps23
  go_wp2_with fail
  refine wp_loop_rounds 1 ?_
  rw [rounds_succ]
  go_wp2
  refine bodyPost_ret (v := .agg #[.int .i64 0, .int .i64 0]) (by simp [results, Tryz.results23, go_sem]) rfl ⟨rfl, (Below.refl _ _).alloc (Nat.le_refl _) _⟩
 ·
  have hFl := jB hF
  have q0 := jA hF 0
  have q1 := jA hF 1
  simp at q0 q1
  have hfe : (fe == 0) = false := by simpa using hne
  have tn := ta_no F
  have ty := ta_yes fe
  have hvH := jH hv
  clear hF hne h2 hv
  go_enter Tryz.func23, Tryz.ntmps23
  go_wp2_with fail
  refine wp_loop_rounds 2 ?_
  rw [rounds_succ]
  go_wp2_with fail
  have hV2 : VarOk ((w.alloc (.cells #[.int .i64 0, .int .i64 0] 69)).alloc (.cells #[.pointer none] 125)) :=
   hvH.out.below (((Below.refl _ w).alloc (Nat.le_refl _) _).alloc (by simp) _) hvl
  refine (as_hit2 ⟨F, 0, none⟩ ⟨w.heap.size + 1, 0, none⟩ (.pointer none) _ hV2 ?_ ?_).mono ?_
  ·
   rw [jA (jT _ _ (by simp))]; rfl
  ·
   exact jE (jT _ _ (by simp)) 0
  rintro e w1 ⟨rfl, W', rfl, hb⟩
  have hz := hb.size
  simp only [World.size_alloc] at hz
  have hbT : (W'.setCell ⟨w.heap.size + 1, 0, none⟩ (.pointer (some ⟨F, 0, none⟩))).heap[w.heap.size + 1]? = some (.cells #[.pointer (some ⟨F, 0, none⟩)] 125 (0, 0)) := by
   rw [jO ((hb.block _ (by simp)).trans (jT _ _ (by simp)))]; rfl
  have hbR : (W'.setCell ⟨w.heap.size + 1, 0, none⟩ (.pointer (some ⟨F, 0, none⟩))).heap[w.heap.size]? = some (.cells #[.int .i64 0, .int .i64 0] 69 (0, 0)) :=
   yG (by dsimp only; omega) ((hb.block _ (by simp; omega)).trans (yE _ (by simp) (jT _ _ rfl)))
  have hbF : Below w.heap.size w (W'.setCell ⟨w.heap.size + 1, 0, none⟩ (.pointer (some ⟨F, 0, none⟩))) :=
   ((((Below.refl _ w).alloc (Nat.le_refl _) _).alloc (by simp) _).trans (hb.mono (by simp; omega))).setCell (by simp) _
  generalize (W'.setCell ⟨w.heap.size + 1, 0, none⟩ (.pointer (some ⟨F, 0, none⟩))) = w1 at hbT hbR hbF ⊢
  clear hb hz
  have z0 := (hbF.cell (p := ⟨F, 0, none⟩) hFl).trans q0
  have z1 := (hbF.cell (p := ⟨F, 1, none⟩) hFl).trans q1
  have t0 := jA hbT 0
  have r0 := jA hbR 0
  have r1 := jA hbR 1
  simp at t0 r0 r1
  have hfR := jE hbR
  have hlT := jB hbT
  have hlR := jB hbR
  have hlF : F < w1.heap.size := Nat.lt_of_lt_of_le hFl hbF.size
  clear hbT hbR q0 q1
  go_wp2_with fail
  rw [rounds_succ]
  go_wp2
  refine bodyPost_ret (v := .agg #[.int .i64 fa, .int .i64 fe]) (by simp [results, Tryz.results23, go_sem, r0, r1]) rfl ⟨rfl, ?_⟩
  repeat (first | exact hbF | refine Below.setCell ?_ (by first | (simp; done) | (simp; omega) | omega) _)
end Go.Proofs.YtfhandglpjnonaaGreatDoor
