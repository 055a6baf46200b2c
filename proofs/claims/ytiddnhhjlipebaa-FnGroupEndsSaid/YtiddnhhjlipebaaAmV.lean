/- The walk's rules again, over operations that are written out: the temporaries' terms stay small. Conditions: none. -/
import Derived.Test.YtiddnhhjlipebaaAmU
namespace Go.Proofs.Ytiddnhhjlipebaa.Am
open Go
set_option linter.unusedVariables false
set_option linter.unusedSimpArgs false

def plainOp : Op → Bool
  | .call ⟨.value _, _, _⟩ => false
  | _ => true

theorem eq_go {α : Type} {a b : α} (h : a = b) : a = b := h

section
variable {P : Program} {G : Glo} {N : Nat} {Q : Exit → Tmps → Heap → Prop} {ops : Array Oper} {ms : List Nat} {T : Tmps} {h : Heap} {rest : List Oper} {j : Nat} {al : List Bool}
  {dst : Option Nat} {op : Op} {ty : TypeId} {pos : String} {aft : Array Edge} {g t d : Nat} {want b : Bool} {v : Value} {h' : Heap}
  {c : Call} {fo : Operand} {f : FuncId} {fs cs args : Array Value} {K : Value → Heap → Prop} {as : Array Operand} {ats : Array TypeId}

/-- The same as AR and ADr, closed: so that a rule that does not fit fails at once. -/
structure XR (P : Program) (G : Glo) (ops : Array Oper) (Q : Exit → Tmps → Heap → Prop) (l : List Oper) (T : Tmps) (h : Heap) : Prop where
  ar : AR P G ops Q l T h
structure XD (P : Program) (G : Glo) (ops : Array Oper) (ms : List Nat) (Q : Exit → Tmps → Heap → Prop) (l : List Oper) (j : Nat) (T : Tmps) (h : Heap) (al : List Bool) : Prop where
  ad : ADr P G ops ms Q l j T h al
theorem xr_reg {id : Nat} {l : List Oper} (hall : (l.all fun o => operOk G N l.toArray o) = true) (hr : XR P G l.toArray Q l T h) : AW P G N (.region id l.toArray false) Q T h := aw_reg hall hr.ar
theorem xd_reg {id : Nat} {l : List Oper} (hm : P.follows .mixedOrders = true) {ms : List Nat} (hms : ancM l [] = ms) (hok : drawOk G N l.toArray ms = true)
    (hd : XD P G l.toArray ms Q l 0 T h []) : AW P G N (.region id l.toArray true) Q T h := aw_dr hm hms hok hd.ad
theorem xr_nil (hq : Q .normal T h) : XR P G ops Q [] T h := ⟨hq⟩
theorem xd_nil (hq : Q .normal T h) : XD P G ops ms Q [] j T h al := ⟨dr_nil hq⟩

theorem xr_do (hpl : plainOp op = true) (hs : stp P h (ev T) op = some (v, h')) (hk : XR P G ops Q rest (put T (some d) v) h') : XR P G ops Q (⟨some d, op, ty, pos, aft, none⟩ :: rest) T h := ⟨ar_do rfl hs hk.ar⟩
theorem xr_st (hpl : plainOp op = true) (hs : stp P h (ev T) op = some (v, h')) (hk : XR P G ops Q rest T h') : XR P G ops Q (⟨none, op, ty, pos, aft, none⟩ :: rest) T h := ⟨ar_do rfl hs hk.ar⟩
theorem xr_gdo (hpl : plainOp op = true) (hd : ((ops[g]?).bind (·.dst)) = some t) (hb : ev T (.tmp t) = .bool want) (hs : stp P h (ev T) op = some (v, h')) (hk : XR P G ops Q rest (put T (some d) v) h') : XR P G ops Q (⟨some d, op, ty, pos, aft, some (g, want)⟩ :: rest) T h := ⟨ar_gdo rfl hd hb hs hk.ar⟩
theorem xr_gst (hpl : plainOp op = true) (hd : ((ops[g]?).bind (·.dst)) = some t) (hb : ev T (.tmp t) = .bool want) (hs : stp P h (ev T) op = some (v, h')) (hk : XR P G ops Q rest T h') : XR P G ops Q (⟨none, op, ty, pos, aft, some (g, want)⟩ :: rest) T h := ⟨ar_gdo rfl hd hb hs hk.ar⟩
theorem xr_goff (hd : ((ops[g]?).bind (·.dst)) = some t) (hb : ev T (.tmp t) = .bool (!want)) (hk : XR P G ops Q rest (put T (some d) undef) h) : XR P G ops Q (⟨some d, op, ty, pos, aft, some (g, want)⟩ :: rest) T h := ⟨ar_goff rfl hd hb hk.ar⟩
theorem xr_gsoff (hd : ((ops[g]?).bind (·.dst)) = some t) (hb : ev T (.tmp t) = .bool (!want)) (hk : XR P G ops Q rest T h) : XR P G ops Q (⟨none, op, ty, pos, aft, some (g, want)⟩ :: rest) T h := ⟨ar_goff rfl hd hb hk.ar⟩
theorem xr_gund (hd : ((ops[g]?).bind (·.dst)) = some t) (hb : ev T (.tmp t) = undef) (hk : XR P G ops Q rest (put T (some d) undef) h) : XR P G ops Q (⟨some d, op, ty, pos, aft, some (g, want)⟩ :: rest) T h := ⟨ar_gund rfl hd hb hk.ar⟩
theorem xr_gsund (hd : ((ops[g]?).bind (·.dst)) = some t) (hb : ev T (.tmp t) = undef) (hk : XR P G ops Q rest T h) : XR P G ops Q (⟨none, op, ty, pos, aft, some (g, want)⟩ :: rest) T h := ⟨ar_gund rfl hd hb hk.ar⟩
theorem xr_gif (hd : ((ops[g]?).bind (·.dst)) = some t) (hb : ev T (.tmp t) = .bool b) (ht : b = true → XR P G ops Q (⟨dst, op, ty, pos, aft, some (g, want)⟩ :: rest) T h) (hf : b = false → XR P G ops Q (⟨dst, op, ty, pos, aft, some (g, want)⟩ :: rest) T h) : XR P G ops Q (⟨dst, op, ty, pos, aft, some (g, want)⟩ :: rest) T h := ⟨ar_gif rfl hd hb (fun q => (ht q).ar) (fun q => (hf q).ar)⟩
theorem xr_cl (hv : ev T fo = .func (.func f) fs cs) (hc : callOk P f = true) (hargs : fs ++ as.map (ev T) ++ cs = args) (ha : ACalls P G f args h K) (hk : ∀ v h', K v h' → XR P G ops Q rest (put T (some d) v) h') : XR P G ops Q (⟨some d, .call ⟨.value fo, as, ats⟩, ty, pos, aft, none⟩ :: rest) T h := ⟨ar_cl rfl rfl rfl hv hc hargs ha (fun v h q => (hk v h q).ar)⟩
theorem xr_cln (hv : ev T fo = .func (.func f) fs cs) (hc : callOk P f = true) (hargs : fs ++ as.map (ev T) ++ cs = args) (ha : ACalls P G f args h K) (hk : ∀ v h', K v h' → XR P G ops Q rest T h') : XR P G ops Q (⟨none, .call ⟨.value fo, as, ats⟩, ty, pos, aft, none⟩ :: rest) T h := ⟨ar_cl rfl rfl rfl hv hc hargs ha (fun v h q => (hk v h q).ar)⟩
theorem xr_gcl (hd : ((ops[g]?).bind (·.dst)) = some t) (hb : ev T (.tmp t) = .bool want) (hv : ev T fo = .func (.func f) fs cs) (hc : callOk P f = true) (hargs : fs ++ as.map (ev T) ++ cs = args) (ha : ACalls P G f args h K) (hk : ∀ v h', K v h' → XR P G ops Q rest (put T (some d) v) h') : XR P G ops Q (⟨some d, .call ⟨.value fo, as, ats⟩, ty, pos, aft, some (g, want)⟩ :: rest) T h := ⟨ar_gcl rfl hd hb rfl rfl hv hc hargs ha (fun v h q => (hk v h q).ar)⟩
theorem xd_do (hpl : plainOp op = true) (ho : ordAll ms al j = true) (hs : stp P h (ev T) op = some (v, h)) (hk : XD P G ops ms Q rest (j + 1) (put T (some d) v) h (al ++ [false])) : XD P G ops ms Q (⟨some d, op, ty, pos, aft, none⟩ :: rest) j T h al := ⟨dr_do ho rfl hs hk.ad⟩
theorem xd_mk (hpl : plainOp op = true) (L : Heap) (ho : ordAll ms al j = true) (hs : stp P h (ev T) op = some (v, h')) (he : h' = h ++ L) (hk : XD P G ops ms Q rest (j + 1) (put T (some d) v) (h ++ L) (al ++ [true])) : XD P G ops ms Q (⟨some d, op, ty, pos, aft, none⟩ :: rest) j T h al := ⟨dr_mk L ho rfl hs he hk.ad⟩
theorem xd_gdo (hpl : plainOp op = true) (ho : ordAll ms al j = true) (hd : ((ops[g]?).bind (·.dst)) = some t) (hb : ev T (.tmp t) = .bool want) (hs : stp P h (ev T) op = some (v, h)) (hk : XD P G ops ms Q rest (j + 1) (put T (some d) v) h (al ++ [false])) : XD P G ops ms Q (⟨some d, op, ty, pos, aft, some (g, want)⟩ :: rest) j T h al := ⟨dr_gdo ho rfl hd hb hs hk.ad⟩
theorem xd_goff (hd : ((ops[g]?).bind (·.dst)) = some t) (hb : ev T (.tmp t) = .bool (!want)) (hk : XD P G ops ms Q rest (j + 1) (put T (some d) undef) h (al ++ [false])) : XD P G ops ms Q (⟨some d, op, ty, pos, aft, some (g, want)⟩ :: rest) j T h al := ⟨dr_goff rfl hd hb hk.ad⟩
theorem xd_gund (hd : ((ops[g]?).bind (·.dst)) = some t) (hb : ev T (.tmp t) = undef) (hk : XD P G ops ms Q rest (j + 1) (put T (some d) undef) h (al ++ [false])) : XD P G ops ms Q (⟨some d, op, ty, pos, aft, some (g, want)⟩ :: rest) j T h al := ⟨dr_gund rfl hd hb hk.ad⟩
theorem xd_gif (hd : ((ops[g]?).bind (·.dst)) = some t) (hb : ev T (.tmp t) = .bool b) (ht : b = true → XD P G ops ms Q (⟨dst, op, ty, pos, aft, some (g, want)⟩ :: rest) j T h al) (hf : b = false → XD P G ops ms Q (⟨dst, op, ty, pos, aft, some (g, want)⟩ :: rest) j T h al) : XD P G ops ms Q (⟨dst, op, ty, pos, aft, some (g, want)⟩ :: rest) j T h al := ⟨dr_gif rfl hd hb (fun q => (ht q).ad) (fun q => (hf q).ad)⟩
theorem xd_cl (hv : ev T fo = .func (.func f) fs cs) (hc : callOk P f = true) (hargs : fs ++ as.map (ev T) ++ cs = args) (ho : ordAll ms al j = true) (ha : ACalls P G f args h fun v' h' => v' = v ∧ h' = h) (hk : XD P G ops ms Q rest (j + 1) (put T (some d) v) h (al ++ [false])) : XD P G ops ms Q (⟨some d, .call ⟨.value fo, as, ats⟩, ty, pos, aft, none⟩ :: rest) j T h al := ⟨dr_cl rfl rfl hv rfl hc hargs ho ha hk.ad⟩
theorem xd_gcl (hd : ((ops[g]?).bind (·.dst)) = some t) (hb : ev T (.tmp t) = .bool want) (hv : ev T fo = .func (.func f) fs cs) (hc : callOk P f = true) (hargs : fs ++ as.map (ev T) ++ cs = args) (ho : ordAll ms al j = true) (ha : ACalls P G f args h fun v' h' => v' = v ∧ h' = h) (hk : XD P G ops ms Q rest (j + 1) (put T (some d) v) h (al ++ [false])) : XD P G ops ms Q (⟨some d, .call ⟨.value fo, as, ats⟩, ty, pos, aft, some (g, want)⟩ :: rest) j T h al := ⟨dr_gcl rfl rfl hv rfl hd hb hc hargs ho ha hk.ad⟩
theorem xd_clnew {L : Heap} (hv : ev T fo = .func (.func f) fs cs) (hc : callOk P f = true) (hargs : fs ++ as.map (ev T) ++ cs = args) (ho : ordAll ms al j = true) (ha : ACalls P G f args h fun v' h' => v' = v ∧ h' = h ++ L) (hk : XD P G ops ms Q rest (j + 1) (put T (some d) v) (h ++ L) (al ++ [true])) : XD P G ops ms Q (⟨some d, .call ⟨.value fo, as, ats⟩, ty, pos, aft, none⟩ :: rest) j T h al := ⟨dr_clnew rfl rfl hv rfl hc hargs ho ha hk.ad⟩
end
end Go.Proofs.Ytiddnhhjlipebaa.Am
