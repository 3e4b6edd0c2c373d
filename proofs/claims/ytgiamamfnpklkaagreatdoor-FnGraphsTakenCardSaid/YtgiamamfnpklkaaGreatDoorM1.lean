/-
  THE M-LAYER: a loaded function's Code read as a weakest precondition over the heap alone. The tape, the draws and the orders of a region are dealt with once, in 'wpC_sound' and 'callM_of_wpC'. No program in sight.
-/
import Derived.Orders
import Derived.KernelRfl
import Derived.Laws.Sem
set_option linter.unusedVariables false
set_option linter.unusedSimpArgs false
namespace Go.Mx

abbrev Heap := Array Obj
abbrev Env := List Value

structure Same (w w' : World) : Prop where
  os : w'.os = w.os
  tape : w'.tape = w.tape
  output : w'.output = w.output
theorem Same.refl (w : World) : Same w w := ⟨rfl, rfl, rfl⟩
theorem Same.trans {a b c : World} (h : Same a b) (k : Same b c) : Same a c := ⟨k.os.trans h.os, k.tape.trans h.tape, k.output.trans h.output⟩

/-! ### Environments -/
def lget : Env → Nat → Value
  | [], _ => undef
  | v :: _, 0 => v
  | _ :: vs, n + 1 => lget vs n
def lset : Env → Nat → Value → Env
  | [], _, _ => []
  | _ :: vs, 0, u => u :: vs
  | v :: vs, n + 1, u => v :: lset vs n u
def put (e : Env) (dst : Option Tmp) (v : Value) : Env :=
  match dst with
  | some d => lset e d v
  | none => e
def ev (e : Env) : Operand → Value
  | .tmp t => lget e t
  | .const v => v
  | .global g => .pointer (some ⟨g, 0, none⟩)
  | .func f => .func (.func f) #[] #[]
def evs (ρ : Operand → Value) : List Operand → List Value
  | [] => []
  | x :: xs => ρ x :: evs ρ xs
def getMany (e : Env) : List Nat → List Value
  | [] => []
  | t :: ts => lget e t :: getMany e ts
def setMany (e : Env) : List Nat → List Value → Env
  | [], _ => e
  | _ :: _, [] => e
  | t :: ts, v :: vs => setMany (lset e t v) ts vs
def junkMany (e : Env) (j : Nat → Value) : List Nat → Env
  | [] => e
  | t :: ts => junkMany (lset e t (j t)) j ts

theorem length_lset : ∀ (e : Env) (n : Nat) (v : Value), (lset e n v).length = e.length
  | [], _, _ => rfl
  | _ :: _, 0, _ => rfl
  | _ :: vs, n + 1, v => by simp [lset, length_lset vs n v]
theorem lget_lset_ne : ∀ (e : Env) (n m : Nat) (v : Value), n ≠ m → lget (lset e n v) m = lget e m
  | [], _, _, _, _ => rfl
  | _ :: _, 0, 0, _, h => absurd rfl h
  | _ :: _, 0, m + 1, _, _ => rfl
  | _ :: _, n + 1, 0, _, _ => rfl
  | _ :: vs, n + 1, m + 1, v, h => by simp only [lset, lget]; exact lget_lset_ne vs n m v (by omega)
theorem lget_lset_eq : ∀ (e : Env) (n : Nat) (v : Value), n < e.length → lget (lset e n v) n = v
  | [], _, _, h => by simp at h
  | _ :: _, 0, _, _ => rfl
  | _ :: vs, n + 1, v, h => by simp only [lset, lget]; exact lget_lset_eq vs n v (by simpa using h)
theorem lget_ge : ∀ (e : Env) (n : Nat), e.length ≤ n → lget e n = undef
  | [], _, _ => rfl
  | _ :: _, 0, h => by simp at h
  | _ :: vs, n + 1, h => by simp only [lget]; exact lget_ge vs n (by simpa using h)
theorem env_ext : ∀ (e e' : Env), e.length = e'.length → (∀ t, t < e.length → lget e t = lget e' t) → e = e'
  | [], [], _, _ => rfl
  | [], _ :: _, h, _ => by simp at h
  | _ :: _, [], h, _ => by simp at h
  | v :: vs, u :: us, h, k => by
    have h0 := k 0 (by simp)
    simp only [lget] at h0
    rw [h0, env_ext vs us (by simpa using h) fun t ht => by have := k (t + 1) (by simpa using ht); simpa [lget] using this]
theorem lset_getD (e : Env) (d : Nat) (v : Value) : lset e d v = e.set d v := by
  induction e generalizing d with
  | nil => rfl
  | cons x xs ih => cases d with
    | zero => rfl
    | succ d => simp [lset, ih]
theorem lget_toList (a : Array Value) (t : Nat) : lget a.toList t = a.getD t undef := by
  have key : ∀ (l : List Value) (t : Nat), lget l t = l[t]?.getD undef := by
    intro l
    induction l with
    | nil => intro t; simp [lget]
    | cons x xs ih => intro t; cases t with
      | zero => simp [lget]
      | succ t => simp [lget, ih]
  rw [key]; simp
theorem put_toList (a : Act) (dst : Option Tmp) (v : Value) : (a.put dst v).tmps.toList = put a.tmps.toList dst v := by
  cases dst with
  | none => rfl
  | some d => simp [Act.put, put, lset_getD]
theorem put_defers (a : Act) (dst : Option Tmp) (v : Value) : (a.put dst v).defers = a.defers := by cases dst <;> rfl
theorem ev_toList (a : Act) (x : Operand) : ev a.tmps.toList x = a.eval x := by
  cases x <;> simp [ev, Act.eval, lget_toList]
theorem evs_map (ρ : Operand → Value) (l : List Operand) : evs ρ l = l.map ρ := by induction l <;> simp [evs, *]

/-! ### One operation -/
/- Structures, so that the kernel never opens them. -/
structure pop (P : Program) (s : Sem Value) (K : Value → Prop) : Prop where
  out : ∃ v, (∀ w, s.run P w = .ok v w) ∧ K v
structure rop (P : Program) (s : Sem Value) (h : Heap) (K : Value → Prop) : Prop where
  out : ∃ v, (∀ w : World, w.heap = h → s.run P w = .ok v w) ∧ K v
structure eop (P : Program) (s : Sem Value) (h : Heap) (K : Value → Heap → Prop) : Prop where
  out : ∀ w : World, w.heap = h → ∃ v w', s.run P w = .ok v w' ∧ Same w w' ∧ K v w'.heap
structure uop (P : Program) (s : Sem Unit) (h : Heap) (K : Value → Heap → Prop) : Prop where
  out : ∀ w : World, w.heap = h → ∃ w', s.run P w = .ok () w' ∧ Same w w' ∧ K undef w'.heap
def enterM (P : Program) (f : FuncId) (args : Array Value) (w : World) (K : Value → Heap → Prop) : Prop :=
  Calls P f args w fun e w' => ∃ v, e = .returned v ∧ Same w w' ∧ K v w'.heap
/-- The call of a function of the program, whatever the tape. -/
structure callM (P : Program) (f : FuncId) (args : Array Value) (h : Heap) (K : Value → Heap → Prop) : Prop where
  out : ∀ w : World, w.heap = h → (∃ v w', (callFunc f args).run P w = .ok (.value v) w' ∧ Same w w' ∧ K v w'.heap) ∨
    (∃ f' args' w', (callFunc f args).run P w = .ok (.enter f' args') w' ∧ w' = w ∧ enterM P f' args' w K)
def callV (P : Program) (v : Value) (args : List Value) (h : Heap) (K : Value → Heap → Prop) : Prop :=
  match v with
  | .func (.func g) first cap => callM P g (first.toList ++ args ++ cap.toList).toArray h K
  | _ => False
structure condM (v : Value) (A B : Prop) : Prop where
  out : ∃ t : Bool, v = .bool t ∧ (t = true → A) ∧ (t = false → B)
structure guardM (v : Value) (want : Bool) (A : (Value → Heap → Prop) → Prop) (h : Heap) (K : Value → Heap → Prop) : Prop where
  out : ∃ b : Bool, v = .bool b ∧ (b = want → A K) ∧ (b ≠ want → K undef h)

/-- Operations that read no memory. -/
def psem (ρ : Operand → Value) (ty : TypeId) : Op → Option (Sem Value)
  | .pick c a b => some (do pure (if ← asBool (ρ c) then ρ a else ρ b))
  | .nilCheck x => some (match ρ x with
    | .pointer none | .nilIface | .nilFunc => runtimePanic .nilDeref
    | .func (.method _) _ _ => stuck "a method value"
    | x => pure x)
  | .binOp op t x y _ => some (do eqGuard op t x y (ρ x) (ρ y); binOp op t (ρ x) (ρ y))
  | .unOp op _ x => some (Op.unary op (ρ x))
  | .makeInterface t x => some (Instr.makeInterface t (ρ x))
  | .makeFunc fn first captured => some (Instr.makeFunc fn (evs ρ first.toList).toArray (evs ρ captured.toList).toArray)
  | .slice t x lo hi mx => some (Instr.sliceAt t (ρ x) (lo.map ρ) (hi.map ρ) (mx.map ρ))
  | .fieldAddr s x f => some (Instr.fieldAt s (ρ x) f)
  | .field t x f => some (Instr.field t (ρ x) f)
  | .indexAddr t x ix => some (Instr.indexAt t (ρ x) (ρ ix))
  | .index t x ix => some (Instr.index t (ρ x) (ρ ix))
  | .extract t ix => some (Instr.extract (ρ t) ix)
  | .build t parts => some (Instr.build t (parts.toList.map fun p => (p.1, ρ p.2)).toArray)
  | .call c => match c.callee with
    | .builtin .len => some (Builtin.len_ c.argTypes ty (evs ρ c.args.toList).toArray)
    | .builtin .cap => some (Builtin.cap_ c.argTypes ty (evs ρ c.args.toList).toArray)
    | .builtin .max => some (Builtin.max_ c.argTypes ty (evs ρ c.args.toList).toArray)
    | .builtin .min => some (Builtin.min_ c.argTypes ty (evs ρ c.args.toList).toArray)
    | _ => none
  | _ => none
/-- Operations that read memory and change nothing. -/
def rsem (ρ : Operand → Value) : Op → Option (Sem Value)
  | .load t a => some (Instr.loadAt t (ρ a))
  | .convert src dst x => some (convert src dst (ρ x))
  | .lookup t x ix ok => some (Instr.lookup t (ρ x) (ρ ix) ok)
  | .typeAssert x xType asserted ok => some (Instr.typeAssert (ρ x) xType asserted ok)
  | _ => none
def esem (ρ : Operand → Value) (ty : TypeId) : Op → Option (Sem Value)
  | .alloc elem => some (Instr.alloc elem true (.tuple #[]))
  | .box elem x => some (Instr.box elem (ρ x))
  | .buildSlice t len parts => some (Instr.buildSlice t len (parts.toList.map fun p => (p.1, ρ p.2)).toArray)
  | .makeMap t r => some (Instr.makeMap t (r.map ρ))
  | .makeSlice t l c => some (Instr.makeSlice t (ρ l) (ρ c))
  | .range t x => some (Instr.range t (ρ x))
  | .next it isString => some (Instr.next (ρ it) isString ty)
  | .entry it => some (Instr.entry (ρ it))
  | .call c => match c.callee with
    | .builtin .append => some (Builtin.append_ c.argTypes ty (evs ρ c.args.toList).toArray)
    | .builtin .copy => some (Builtin.copy_ c.argTypes ty (evs ρ c.args.toList).toArray)
    | _ => none
  | _ => none
def usem (ρ : Operand → Value) : Op → Option (Sem Unit)
  | .store t a x => some (Instr.storeAt t (ρ a) (ρ x))
  | .mapUpdate t m k x | .insert t m k x => some (Instr.mapUpdate t (ρ m) (ρ k) (ρ x))
  | _ => none
def moveOf : Op → Option Operand
  | .move x | .assign x => some x
  | _ => none
def callOf : Op → Option (Operand × Array Operand)
  | .call c => match c.callee with
    | .value f => some (f, c.args)
    | _ => none
  | _ => none
def execM (P : Program) (ρ : Operand → Value) (op : Op) (ty : TypeId) (h : Heap) (K : Value → Heap → Prop) : Prop :=
  match moveOf op with
  | some x => K (ρ x) h
  | none => match callOf op with
    | some (f, args) => callV P (ρ f) (evs ρ args.toList) h K
    | none => match psem ρ ty op with
      | some s => pop P s fun v => K v h
      | none => match rsem ρ op with
        | some s => rop P s h fun v => K v h
        | none => match esem ρ ty op with
          | some s => eop P s h K
          | none => match usem ρ op with
            | some s => uop P s h K
            | none => False

theorem callM_mono {P : Program} {f : FuncId} {args : Array Value} {h : Heap} {K K' : Value → Heap → Prop} (hk : ∀ v h, K v h → K' v h) (H : callM P f args h K) : callM P f args h K' := by
  refine ⟨fun w hw => ?_⟩
  rcases H.out w hw with ⟨v, w', h1, h2, h3⟩ | ⟨f', args', w', h1, h2, h3⟩
  · exact .inl ⟨v, w', h1, h2, hk _ _ h3⟩
  · exact .inr ⟨f', args', w', h1, h2, h3.mono fun e w'' ⟨v, a, b, c⟩ => ⟨v, a, b, hk _ _ c⟩⟩
theorem callV_mono {P : Program} {v : Value} {args : List Value} {h : Heap} {K K' : Value → Heap → Prop} (hk : ∀ v h, K v h → K' v h) (H : callV P v args h K) : callV P v args h K' := by
  unfold callV at *
  split at H
  · exact callM_mono hk H
  · exact H.elim
theorem execM_mono {P : Program} {e : Operand → Value} {op : Op} {ty : TypeId} {h : Heap} {K K' : Value → Heap → Prop} (hk : ∀ v h, K v h → K' v h) (H : execM P e op ty h K) : execM P e op ty h K' := by
  unfold execM at *
  split
  · rename_i x hx; simp only [hx] at H; exact hk _ _ H
  · rename_i hx; simp only [hx] at H
    split
    · rename_i f args hc; simp only [hc] at H; exact callV_mono hk H
    · rename_i hc; simp only [hc] at H
      split
      · rename_i s hs; simp only [hs] at H; obtain ⟨v, a, b⟩ := H; exact ⟨v, a, hk _ _ b⟩
      · rename_i hs; simp only [hs] at H
        split
        · rename_i s hr; simp only [hr] at H; obtain ⟨v, a, b⟩ := H; exact ⟨v, a, hk _ _ b⟩
        · rename_i hr; simp only [hr] at H
          split
          · rename_i s he; simp only [he] at H
            exact ⟨fun w hw => let ⟨v, w', a, b, c⟩ := H.out w hw; ⟨v, w', a, b, hk _ _ c⟩⟩
          · rename_i he; simp only [he] at H
            split
            · rename_i s hu; simp only [hu] at H
              exact ⟨fun w hw => let ⟨w', a, b, c⟩ := H.out w hw; ⟨w', a, b, hk _ _ c⟩⟩
            · rename_i hu; simp only [hu] at H

/-- What the machine's operation is asked for. -/
def Next.gives (P : Program) (w : World) (K : Value → Heap → Prop) : Result Next → Prop
  | .ok (.value v) w' => Same w w' ∧ K v w'.heap
  | .ok .skip w' => Same w w' ∧ K undef w'.heap
  | .ok (.enter f args) w' => w' = w ∧ enterM P f args w K
  | _ => False

theorem gives_v {P : Program} {w : World} {K : Value → Heap → Prop} {s : Sem Value} {v : Value} {w' : World} (h : s.run P w = .ok v w') (hs : Same w w') (hk : K v w'.heap) :
    Next.gives P w K ((do let x ← s; pure (Next.value x) : Sem Next).run P w) := by
  have : ((do let x ← s; pure (Next.value x) : Sem Next).run P w) = .ok (.value v) w' := by
    show (s.bind fun x => Sem.pure (Next.value x)).run P w = _
    rw [Sem.run_bind', h]; rfl
  rw [this]; exact ⟨hs, hk⟩
theorem gives_u {P : Program} {w : World} {K : Value → Heap → Prop} {s : Sem Unit} {w' : World} (h : s.run P w = .ok () w') (hs : Same w w') (hk : K undef w'.heap) :
    Next.gives P w K ((do s; pure Next.skip : Sem Next).run P w) := by
  have : ((do s; pure Next.skip : Sem Next).run P w) = .ok .skip w' := by
    show (s.bind fun _ => Sem.pure Next.skip).run P w = _
    rw [Sem.run_bind', h]; rfl
  rw [this]; exact ⟨hs, hk⟩

theorem map_eval (a : Act) (xs : Array Operand) : xs.map a.eval = (evs (ev a.tmps.toList) xs.toList).toArray := by
  rw [evs_map]
  apply Array.ext'
  simp only [Array.toList_map]
  exact List.map_congr_left fun x _ => (ev_toList a x).symm
theorem map_parts (a : Act) (xs : Array (Nat × Operand)) : (xs.map fun (i, x) => (i, a.eval x)) = (xs.toList.map fun p => (p.1, ev a.tmps.toList p.2)).toArray := by
  apply Array.ext'
  simp only [Array.toList_map]
  exact List.map_congr_left fun x _ => by rw [ev_toList]
theorem map_opt (a : Act) (x : Option Operand) : x.map a.eval = x.map (ev a.tmps.toList) := by
  cases x <;> simp [ev_toList]

theorem run_pick {P : Program} {w : World} {c a b v : Value} (h : (do pure (if ← asBool c then a else b) : Sem Value).run P w = .ok v w) :
    ((do pure (Next.value (if ← asBool c then a else b))) : Sem Next).run P w = .ok (.value v) w := by
  cases c <;> first | (simp [asBool, Sem.run, bind, pure, Sem.bind] at h ⊢; exact h) | (simp [asBool, stuck, Sem.run, bind, pure, Sem.bind] at h)

theorem execM_gives {P : Program} {a : Act} {o : Oper} {w : World} {K : Value → Heap → Prop} (H : execM P (ev a.tmps.toList) o.op o.type w.heap K) :
    Next.gives P w K ((execOp a.eval o).run P w) := by
  obtain ⟨dst, op, type, pos, after, guard⟩ := o
  simp only at H
  cases op <;> simp only [execM, moveOf, callOf, psem, rsem, esem, usem] at H
  case move x => simp only [execOp]; rw [← ev_toList]; exact ⟨Same.refl w, H⟩
  case assign x => simp only [execOp]; rw [← ev_toList]; exact ⟨Same.refl w, H⟩
  case pick c x y =>
    obtain ⟨v, hv, hk⟩ := H
    simp only [execOp, ← ev_toList]
    rw [run_pick (hv w)]
    exact ⟨Same.refl w, hk⟩
  case nilCheck x =>
    obtain ⟨v, hv, hk⟩ := H
    simp only [execOp, ← ev_toList]
    have hw := hv w
    generalize ev a.tmps.toList x = u at *
    cases u <;> try (simp only [pure, Sem.run, Result.ok.injEq] at hw; obtain ⟨rfl, _⟩ := hw; exact ⟨Same.refl w, hk⟩)
    case pointer q =>
      cases q with
      | none =>
        exfalso
        have : ∀ (e : RuntimeError), (runtimePanic e : Sem Value).run P w ≠ .ok v w := by
          intro e he
          unfold runtimePanic at he
          cases e <;> simp [program, bind, Sem.bind, Sem.run, goPanic] at he
          all_goals (try (repeat (first | split at he | (simp [Sem.run_bind', Result.andThen] at he))))
        exact this _ hw
      | some q => simp only [pure, Sem.run, Result.ok.injEq] at hw; obtain ⟨rfl, _⟩ := hw; exact ⟨Same.refl w, hk⟩
    case nilIface =>
      simp [runtimePanic, program, bind, Sem.bind, Sem.run, goPanic] at hw
    case nilFunc =>
      simp [runtimePanic, program, bind, Sem.bind, Sem.run, goPanic] at hw
    case func fn first cap =>
      cases fn <;> first | (simp only [pure, Sem.run, Result.ok.injEq] at hw; obtain ⟨rfl, _⟩ := hw; exact ⟨Same.refl w, hk⟩) | (simp [stuck, Sem.run] at hw)
  case call c =>
    obtain ⟨callee, args, argTypes⟩ := c
    cases callee with
    | value f =>
      simp only at H
      simp only [execOp, resolve, ← ev_toList, map_eval]
      unfold callV at H
      split at H
      · rename_i g first cap hf
        simp only [hf]
        have e1 : (do let d ← Deferred.ofValue (Value.func (.func g) first cap) (evs (ev a.tmps.toList) args.toList).toArray; invoke d.target d.args : Sem Next) = callFunc g ((first ++ (evs (ev a.tmps.toList) args.toList).toArray) ++ cap) := rfl
        rw [e1]
        have e2 : (first ++ (evs (ev a.tmps.toList) args.toList).toArray) ++ cap = (first.toList ++ evs (ev a.tmps.toList) args.toList ++ cap.toList).toArray := by
          apply Array.ext'; simp
        rw [e2]
        rcases H.out w rfl with ⟨v, w', h1, h2, h3⟩ | ⟨f', args', w', h1, h2, h3⟩
        · rw [h1]; exact ⟨h2, h3⟩
        · rw [h1]; exact ⟨h2, h3⟩
      · exact H.elim
    | invoke r m => simp only at H
    | builtin b =>
      cases b <;> simp only at H <;>
        first
          | exact H.elim
          | (obtain ⟨v, hv, hk⟩ := H; simp only [execOp, resolve, map_eval]; exact gives_v (hv w) (Same.refl w) hk)
          | (obtain ⟨v, w', h1, h2, h3⟩ := H.out w rfl; simp only [execOp, resolve, map_eval]; exact gives_v h1 h2 h3)
  case build t parts =>
    obtain ⟨v, hv, hk⟩ := H
    simp only [execOp]
    rw [map_parts]
    exact gives_v (hv w) (Same.refl w) hk
  case buildSlice t len parts =>
    obtain ⟨v, w', h1, h2, h3⟩ := H.out w rfl
    simp only [execOp]
    rw [map_parts]
    exact gives_v h1 h2 h3
  all_goals
    first
      | exact H.elim
      | (obtain ⟨v, hv, hk⟩ := H; simp only [execOp, ← ev_toList, map_eval, map_parts, map_opt]; exact gives_v (hv w) (Same.refl w) hk)
      | (obtain ⟨v, hv, hk⟩ := H; simp only [execOp, ← ev_toList, map_eval, map_parts, map_opt]; exact gives_v (hv w rfl) (Same.refl w) hk)
      | (obtain ⟨v, w', h1, h2, h3⟩ := H.out w rfl; simp only [execOp, ← ev_toList, map_eval, map_parts, map_opt]; exact gives_v h1 h2 h3)
      | (obtain ⟨w', h1, h2, h3⟩ := H.out w rfl; simp only [execOp, ← ev_toList, map_eval, map_parts, map_opt]; exact gives_u h1 h2 h3)

/-! ### A region -/
def onth : List Oper → Nat → Option Oper
  | [], _ => none
  | o :: _, 0 => some o
  | _ :: os, n + 1 => onth os n
def gtmp (ops : List Oper) (j : Nat) : Option Tmp :=
  match onth ops j with
  | some o => o.dst
  | none => none
def gval (ops : List Oper) (e : Env) (j : Nat) : Value :=
  match gtmp ops j with
  | some t => lget e t
  | none => undef
/-- What a guard looks at: where nothing was yielded, the guard does not hold. -/
def asG (v : Value) (want : Bool) : Value := match v with
  | .bool b => .bool b
  | _ => .bool (!want)
theorem asG_ne {v : Value} {want b : Bool} (h : asG v want = .bool b) (hv : ∀ c, v ≠ .bool c) : b ≠ want := by
  unfold asG at h
  cases v <;> first
    | exact absurd rfl (hv _)
    | (simp only [Value.bool.injEq] at h; subst h; cases want <;> decide)
def stepV (P : Program) (ops : List Oper) (e : Env) (h : Heap) (o : Oper) (k : Value → Heap → Prop) : Prop :=
  match o.guard with
  | none => execM P (ev e) o.op o.type h k
  | some (j, want) => guardM (asG (gval ops e j) want) want (execM P (ev e) o.op o.type h) h k
def wpIn (P : Program) (ops : List Oper) : List Oper → Env → Heap → (Env → Heap → Prop) → Prop
  | [], e, h, K => K e h
  | o :: os, e, h, K => stepV P ops e h o fun v h' => wpIn P ops os (put e o.dst v) h' K

theorem onth_eq (ops : Array Oper) (i : Nat) : onth ops.toList i = ops[i]? := by
  have key : ∀ (l : List Oper) (i : Nat), onth l i = l[i]? := by
    intro l
    induction l with
    | nil => intro i; simp [onth]
    | cons x xs ih => intro i; cases i <;> simp [onth, ih]
  rw [key]; simp
theorem gval_bool {ops : Array Oper} {a : Act} {j : Nat} {b : Bool} (h : gval ops.toList a.tmps.toList j = .bool b) : yielded ops a.tmps j = some b := by
  unfold gval gtmp at h
  rw [onth_eq] at h
  unfold yielded
  cases ho : ops[j]? with
  | none => rw [ho] at h; simp [undef] at h
  | some o =>
    rw [ho] at h
    simp only at h
    cases hd : o.dst with
    | none => rw [hd] at h; simp [undef] at h
    | some t =>
      rw [hd] at h
      simp only [lget_toList] at h
      simp only [Option.bind_some, hd]
      cases ht : a.tmps[t]? with
      | none => simp [Array.getD_eq_getD_getElem?, ht, undef] at h
      | some v => simp [Array.getD_eq_getD_getElem?, ht] at h; rw [h]

theorem gval_none {ops : Array Oper} {a : Act} {j : Nat} (h : ∀ b, gval ops.toList a.tmps.toList j ≠ .bool b) : yielded ops a.tmps j = none := by
  unfold gval gtmp at h
  rw [onth_eq] at h
  unfold yielded
  cases ho : ops[j]? with
  | none => simp
  | some o =>
    rw [ho] at h
    simp only at h
    cases hd : o.dst with
    | none => simp [hd]
    | some t =>
      rw [hd] at h
      simp only [lget_toList] at h
      simp only [Option.bind_some, hd]
      cases ht : a.tmps[t]? with
      | none => rfl
      | some v =>
        cases v with
        | bool b => exact absurd (by simp [Array.getD_eq_getD_getElem?, ht]) (h b)
        | _ => rfl

theorem wpOp_of_stepV {P : Program} {ops : Array Oper} {Q : Exit → Act → World → Prop} {i : Nat} {o : Oper} {a : Act} {w : World} {K : Act → World → Prop} (ho : ops[i]? = some o)
    (H : stepV P ops.toList a.tmps.toList w.heap o fun v h' => ∀ w', Same w w' → w'.heap = h' → K (a.put o.dst v) w') : wpOp P ops Q i K a w := by
  have key : (execM P (ev a.tmps.toList) o.op o.type w.heap fun v h' => ∀ w', Same w w' → w'.heap = h' → K (a.put o.dst v) w') → o.wp P a w K Q := by
    intro hx
    have hg := execM_gives hx
    unfold Oper.wp
    generalize (execOp a.eval o).run P w = r at *
    cases r with
    | halt x w' => exact hg.elim
    | ok n w' =>
      cases n <;> first
        | exact hg.elim
        | exact hg.2 _ hg.1 rfl
        | (obtain ⟨rfl, hc⟩ := hg
           exact hc.mono fun e w'' ⟨v, he, hs, hk⟩ => by subst he; exact hk _ hs rfl)
  unfold wpOp
  simp only [ho]
  unfold stepV at H
  cases hgd : o.guard with
  | none =>
    simp only [hgd] at H
    simp only [Region.wanted, hgd, if_true]
    exact .inl (key H)
  | some p =>
    obtain ⟨j, want⟩ := p
    simp only [hgd] at H
    obtain ⟨b, hb, h1, h2⟩ := H
    by_cases hv : ∃ c, gval ops.toList a.tmps.toList j = .bool c
    · obtain ⟨c, hc⟩ := hv
      have hbc : c = b := by
        rw [hc] at hb
        simpa [asG] using hb
      subst hbc
      have hy := gval_bool hc
      simp only [Region.wanted, hgd, hy]
      by_cases hbw : c = want
      · subst hbw
        simp only [beq_self_eq_true, if_true]
        exact .inl (key (h1 rfl))
      · have : (some c == some want) = false := by simpa using hbw
        simp only [this, Bool.false_eq_true, if_false]
        exact h2 hbw w (Same.refl w) rfl
    · have hne := asG_ne hb fun c hc => hv ⟨c, hc⟩
      have hy := gval_none fun c hc => hv ⟨c, hc⟩
      simp only [Region.wanted, hgd, hy]
      have : ((none : Option Bool) == some want) = false := rfl
      simp only [this, Bool.false_eq_true, if_false]
      exact h2 hne w (Same.refl w) rfl

theorem execM_mono' {P : Program} {e : Operand → Value} {op : Op} {ty : TypeId} {h : Heap} {K K' : Value → Heap → Prop} (H : execM P e op ty h K) (hk : ∀ v h, K v h → K' v h) : execM P e op ty h K' := execM_mono hk H
theorem stepV_mono {P : Program} {ops : List Oper} {e : Env} {h : Heap} {o : Oper} {k k' : Value → Heap → Prop} (hk : ∀ v h, k v h → k' v h) (H : stepV P ops e h o k) : stepV P ops e h o k' := by
  unfold stepV at *
  cases hg : o.guard with
  | none => simp only [hg] at H ⊢; exact execM_mono hk H
  | some p =>
    obtain ⟨j, want⟩ := p
    simp only [hg] at H ⊢
    obtain ⟨b, hb, h1, h2⟩ := H
    exact ⟨b, hb, fun e => execM_mono hk (h1 e), fun e => hk _ _ (h2 e)⟩

/-! ### A region that draws its order -/
def lB : List Bool → Nat → Bool → Bool
  | [], _, d => d
  | b :: _, 0, _ => b
  | _ :: bs, n + 1, d => lB bs n d
def setB : List Bool → Nat → List Bool
  | [], _ => []
  | _ :: bs, 0 => true :: bs
  | b :: bs, n + 1 => b :: setB bs n
def readyL (l : List Bool) (o : Oper) (i : Nat) : Bool :=
  !lB l i true && o.after.toList.all fun e => !Region.binds .any e || lB l e.on false
def readyAll : List Oper → Nat → List Bool → List (Nat × Oper)
  | [], _, _ => []
  | o :: os, i, l => match readyL l o i with
    | true => (i, o) :: readyAll os (i + 1) l
    | false => readyAll os (i + 1) l
def nowhere : Operand → Value := fun _ => undef
def isP (op : Op) : Bool := (moveOf op).isSome || ((callOf op).isNone && (psem nowhere 0 op).isSome)
def isR (op : Op) : Bool := (moveOf op).isNone && ((callOf op).isNone && ((psem nowhere 0 op).isNone && (rsem nowhere op).isSome))
def firstQuiet : List (Nat × Oper) → Option (Nat × Oper)
  | [] => none
  | (i, o) :: r => match isP o.op || isR o.op with
    | true => some (i, o)
    | false => firstQuiet r
def hasEdge (o : Oper) (i : Nat) : Bool := o.after.toList.any fun e => Region.binds .any e && Nat.beq e.on i
def looks (ops : List Oper) (o : Oper) : List Tmp :=
  (o.op.operands.toList.filterMap fun | .tmp t => some t | _ => none) ++
  (match o.guard with
   | some (g, _) => (gtmp ops g).toList
   | none => [])
def hasN : List Nat → Nat → Bool
  | [], _ => false
  | x :: xs, n => Nat.beq x n || hasN xs n
def apartL (ops : List Oper) (x y : Oper) : Bool :=
  (match x.dst with
   | some d => !hasN (looks ops y) d && (match y.dst with | some d' => !Nat.beq d d' | none => true)
   | none => true) &&
  (match y.dst with
   | some d => !hasN (looks ops x) d
   | none => true)
def pairsWith (ops : List Oper) (x : Oper) (i : Nat) : List Oper → Bool
  | [] => true
  | y :: ys => (apartL ops x y || hasEdge y i) && pairsWith ops x i ys
def pairsFrom (ops : List Oper) : List Oper → Nat → Bool
  | [], _ => true
  | x :: xs, i => pairsWith ops x i xs && pairsFrom ops xs (i + 1)
abbrev Held := List (Nat × (Heap → Prop))
def Yx (P : Program) (e : Operand → Value) (op : Op) (ty : TypeId) (g : Heap) (v : Value) : Prop :=
  match moveOf op with
  | some x => v = e x
  | none => match psem e ty op with
    | some s => ∀ w, s.run P w = .ok v w
    | none => match rsem e op with
      | some s => ∀ w : World, w.heap = g → s.run P w = .ok v w
      | none => False
def Yv (P : Program) (ops : List Oper) (e : Env) (g : Heap) (o : Oper) (v : Value) : Prop :=
  match o.guard with
  | none => Yx P (ev e) o.op o.type g v
  | some (j, want) => ∃ b : Bool, asG (gval ops e j) want = .bool b ∧ (b = want → Yx P (ev e) o.op o.type g v) ∧ (b ≠ want → v = undef)
def keepH (o : Oper) : Held → Held
  | [] => []
  | (i, p) :: S => match hasEdge o i with
    | true => keepH o S
    | false => (i, p) :: keepH o S
def allS (h : Heap) (K : Prop) : Held → Prop
  | [] => K
  | (_, p) :: S => p h ∧ allS h K S
def allL (f : Nat → Oper → Prop) : List (Nat × Oper) → Prop
  | [] => True
  | [(i, o)] => f i o
  | (i, o) :: r => f i o ∧ allL f r
def wpDraw (P : Program) (ops : List Oper) (K : Env → Heap → Prop) : Nat → List Bool → Env → Heap → Held → Prop
  | 0, l, e, h, _ => match readyAll ops 0 l with
    | [] => K e h
    | _ :: _ => False
  | n + 1, l, e, h, S => match firstQuiet (readyAll ops 0 l) with
    | some (i, o) => match isP o.op with
      | true => stepV P ops e h o fun v h' => wpDraw P ops K n (setB l i) (put e o.dst v) h' S
      | false => stepV P ops e h o fun v h' => wpDraw P ops K n (setB l i) (put e o.dst v) h' ((i, fun g => Yv P ops e g o v) :: S)
    | none => match readyAll ops 0 l with
      | [] => K e h
      | r :: rs => allL (fun i o => stepV P ops e h o fun v h' => allS h' (wpDraw P ops K n (setB l i) (put e o.dst v) h' (keepH o S)) (keepH o S)) (r :: rs)

/-- Every order, what was read being held. -/
def anyS (P : Program) (ops : List Oper) (K : Env → Heap → Prop) : Nat → List Bool → Env → Heap → Held → Prop
  | 0, l, e, h, _ => readyAll ops 0 l = [] ∧ K e h
  | n + 1, l, e, h, S => (readyAll ops 0 l = [] → K e h) ∧ ∀ i o, (i, o) ∈ readyAll ops 0 l → stepV P ops e h o fun v h' =>
      ((isP o.op || isR o.op) = true → anyS P ops K n (setB l i) (put e o.dst v) h' S) ∧
      ((isP o.op || isR o.op) = false → (∀ s, s ∈ keepH o S → s.2 h') ∧ anyS P ops K n (setB l i) (put e o.dst v) h' (keepH o S))

theorem lB_setB_ne : ∀ (l : List Bool) (i j : Nat) (d : Bool), i ≠ j → lB (setB l i) j d = lB l j d
  | [], _, _, _, _ => rfl
  | _ :: _, 0, 0, _, h => absurd rfl h
  | _ :: _, 0, _ + 1, _, _ => rfl
  | _ :: _, _ + 1, 0, _, _ => rfl
  | _ :: bs, n + 1, m + 1, d, h => by simp only [setB, lB]; exact lB_setB_ne bs n m d (by omega)
theorem lB_setB_true : ∀ (l : List Bool) (i j : Nat), lB l j false = true → lB (setB l i) j false = true
  | [], _, _, h => h
  | _ :: _, 0, 0, _ => rfl
  | _ :: _, 0, _ + 1, h => h
  | _ :: _, _ + 1, 0, h => h
  | _ :: bs, n + 1, m + 1, h => by simp only [setB, lB] at *; exact lB_setB_true bs n m h
theorem setB_comm : ∀ (l : List Bool) (i j : Nat), setB (setB l i) j = setB (setB l j) i
  | [], _, _ => rfl
  | _ :: _, 0, 0 => rfl
  | _ :: _, 0, _ + 1 => rfl
  | _ :: _, _ + 1, 0 => rfl
  | _ :: bs, n + 1, m + 1 => by simp only [setB]; rw [setB_comm bs n m]
theorem lB_true_false : ∀ (l : List Bool) (i : Nat), lB l i true = false → lB l i false = false
  | [], _, h => by simp [lB] at h
  | _ :: _, 0, h => h
  | _ :: bs, n + 1, h => lB_true_false bs n h
theorem mem_readyAll_go : ∀ (ops : List Oper) (k : Nat) (l : List Bool) (i : Nat) (o : Oper), (i, o) ∈ readyAll ops k l ↔ ∃ j, i = k + j ∧ onth ops j = some o ∧ readyL l o i = true
  | [], _, _, _, _ => by simp [readyAll, onth]
  | x :: xs, k, l, i, o => by
    have ih := mem_readyAll_go xs (k + 1) l i o
    have hh : (∃ j, i = k + j ∧ onth (x :: xs) j = some o ∧ readyL l o i = true) ↔ ((i = k ∧ x = o ∧ readyL l o i = true) ∨ (∃ j, i = k + 1 + j ∧ onth xs j = some o ∧ readyL l o i = true)) := by
      constructor
      · rintro ⟨j, hj, ho, hr⟩
        cases j with
        | zero => simp only [onth, Option.some.injEq] at ho; exact .inl ⟨by omega, ho, hr⟩
        | succ j => exact .inr ⟨j, by omega, ho, hr⟩
      · rintro (⟨h1, h2, h3⟩ | ⟨j, hj, ho, hr⟩)
        · exact ⟨0, by omega, by simp [onth, h2], h3⟩
        · exact ⟨j + 1, by omega, ho, hr⟩
    rw [hh, ← ih]
    have hu : readyAll (x :: xs) k l = match readyL l x k with
      | true => (k, x) :: readyAll xs (k + 1) l
      | false => readyAll xs (k + 1) l := rfl
    rw [hu]
    cases hr : readyL l x k with
    | true =>
      simp only [List.mem_cons, Prod.mk.injEq]
      constructor
      · rintro (⟨rfl, rfl⟩ | h)
        · exact .inl ⟨rfl, rfl, hr⟩
        · exact .inr h
      · rintro (⟨rfl, rfl, _⟩ | h)
        · exact .inl ⟨rfl, rfl⟩
        · exact .inr h
    | false =>
      constructor
      · exact .inr
      · rintro (⟨rfl, rfl, h3⟩ | h)
        · rw [hr] at h3; cases h3
        · exact h
theorem mem_readyAll {ops : List Oper} {l : List Bool} {i : Nat} {o : Oper} : (i, o) ∈ readyAll ops 0 l ↔ onth ops i = some o ∧ readyL l o i = true := by
  rw [mem_readyAll_go]
  constructor
  · rintro ⟨j, h1, h2, h3⟩; obtain rfl : i = j := by omega
    exact ⟨h2, h3⟩
  · rintro ⟨h2, h3⟩; exact ⟨i, by omega, h2, h3⟩
theorem readyL_iff {l : List Bool} {o : Oper} {i : Nat} : readyL l o i = true ↔ lB l i true = false ∧ ∀ e, e ∈ o.after → Region.binds .any e = true → lB l e.on false = true := by
  unfold readyL
  simp only [Bool.and_eq_true, Bool.not_eq_true', List.all_eq_true, Bool.or_eq_true, Array.mem_toList_iff]
  constructor
  · rintro ⟨h1, h2⟩
    refine ⟨h1, fun e he hb => ?_⟩
    rcases h2 e he with h | h
    · rw [hb] at h; cases h
    · exact h
  · rintro ⟨h1, h2⟩
    refine ⟨h1, fun e he => ?_⟩
    cases hb : Region.binds .any e with
    | false => exact .inl rfl
    | true => exact .inr (h2 e he hb)
theorem readyL_mono {l : List Bool} {o : Oper} {i j : Nat} (h : readyL l o j = true) (hne : j ≠ i) : readyL (setB l i) o j = true := by
  rw [readyL_iff] at *
  exact ⟨by rw [lB_setB_ne _ _ _ _ (Ne.symm hne)]; exact h.1, fun e he hb => lB_setB_true _ _ _ (h.2 e he hb)⟩
theorem no_edge {l : List Bool} {o : Oper} {i j : Nat} (h : readyL l o j = true) (hi : lB l i true = false) : hasEdge o i = false := by
  rw [readyL_iff] at h
  cases hh : hasEdge o i with
  | false => rfl
  | true =>
    unfold hasEdge at hh
    rw [List.any_eq_true] at hh
    obtain ⟨e, he, h2⟩ := hh
    simp only [Bool.and_eq_true] at h2
    have hon : e.on = i := Nat.eq_of_beq_eq_true h2.2
    have := h.2 e (by simpa using he) h2.1
    rw [hon, lB_true_false _ _ hi] at this
    cases this

theorem psem_isSome (e e' : Operand → Value) (ty ty' : TypeId) (op : Op) : (psem e ty op).isSome = (psem e' ty' op).isSome := by
  cases op <;> try rfl
  case call c =>
    obtain ⟨callee, args, argTypes⟩ := c
    cases callee <;> try rfl
    case builtin b => cases b <;> rfl
theorem rsem_isSome (e e' : Operand → Value) (op : Op) : (rsem e op).isSome = (rsem e' op).isSome := by cases op <;> rfl

theorem execM_quiet {P : Program} {e : Operand → Value} {op : Op} {ty : TypeId} {h : Heap} {k : Value → Heap → Prop} (hq : (isP op || isR op) = true) : execM P e op ty h k ↔ ∃ v, Yx P e op ty h v ∧ k v h := by
  unfold execM Yx
  cases hm : moveOf op with
  | some x => simp
  | none =>
    simp only [isP, isR, hm] at hq
    cases hc : callOf op with
    | some c => simp [hc] at hq
    | none =>
      simp only [hc] at hq
      cases hp : psem e ty op with
      | some s => exact ⟨fun h => h.out, fun h => ⟨h⟩⟩
      | none =>
        have h0 : (psem nowhere 0 op).isSome = false := by rw [psem_isSome nowhere e 0 ty, hp]; rfl
        cases hr : rsem e op with
        | some s => exact ⟨fun h => h.out, fun h => ⟨h⟩⟩
        | none =>
          have h1 : (rsem nowhere op).isSome = false := by rw [rsem_isSome nowhere e, hr]; rfl
          have h0' : psem nowhere 0 op = none := by simpa using h0
          have h1' : rsem nowhere op = none := by simpa using h1
          simp [h0', h1'] at hq
theorem stepV_quiet {P : Program} {ops : List Oper} {e : Env} {h : Heap} {o : Oper} {k : Value → Heap → Prop} (hq : (isP o.op || isR o.op) = true) : stepV P ops e h o k ↔ ∃ v, Yv P ops e h o v ∧ k v h := by
  unfold stepV Yv
  cases hg : o.guard with
  | none => exact execM_quiet hq
  | some p =>
    obtain ⟨j, want⟩ := p
    constructor
    · rintro ⟨b, hb, h1, h2⟩
      by_cases hbw : b = want
      · obtain ⟨v, hv, hk⟩ := (execM_quiet hq).1 (h1 hbw)
        exact ⟨v, ⟨b, hb, fun _ => hv, fun h => absurd hbw h⟩, hk⟩
      · exact ⟨undef, ⟨b, hb, fun h => absurd h hbw, fun _ => rfl⟩, h2 hbw⟩
    · rintro ⟨v, ⟨b, hb, h1, h2⟩, hk⟩
      exact ⟨b, hb, fun he => (execM_quiet hq).2 ⟨v, h1 he, hk⟩, fun he => by rw [← h2 he]; exact hk⟩
theorem Yx_pure {P : Program} {e : Operand → Value} {op : Op} {ty : TypeId} {h : Heap} {v : Value} (hq : isP op = true) (H : Yx P e op ty h v) (g : Heap) : Yx P e op ty g v := by
  unfold Yx at *
  cases hm : moveOf op with
  | some x => simpa [hm] using H
  | none =>
    simp only [hm] at H ⊢
    cases hp : psem e ty op with
    | some s => simpa [hp] using H
    | none =>
      have h0 : (psem nowhere 0 op).isSome = false := by rw [psem_isSome nowhere e 0 ty, hp]; rfl
      simp [isP, hm, h0] at hq
theorem Yv_pure {P : Program} {ops : List Oper} {e : Env} {h : Heap} {o : Oper} {v : Value} (hq : isP o.op = true) (H : Yv P ops e h o v) (g : Heap) : Yv P ops e g o v := by
  unfold Yv at *
  cases hg : o.guard with
  | none => simp only [hg] at H ⊢; exact Yx_pure hq H g
  | some p =>
    obtain ⟨j, want⟩ := p
    simp only [hg] at H ⊢
    obtain ⟨b, hb, h1, h2⟩ := H
    exact ⟨b, hb, fun e => Yx_pure hq (h1 e) g, h2⟩

/-! An operation that looks at nothing that was put -/
theorem evs_congr {e e' : Operand → Value} : ∀ (l : List Operand), (∀ x, x ∈ l → e x = e' x) → evs e l = evs e' l
  | [], _ => rfl
  | x :: xs, h => by simp only [evs]; rw [h x (by simp), evs_congr xs fun y hy => h y (by simp [hy])]
theorem parts_congr {e e' : Operand → Value} (ps : Array (Nat × Operand)) (h : ∀ x, x ∈ (ps.toList.map (·.2)) → e x = e' x) : (ps.toList.map fun p => (p.1, e p.2)) = (ps.toList.map fun p => (p.1, e' p.2)) :=
  List.map_congr_left fun p hp => by rw [h p.2 (List.mem_map.2 ⟨p, hp, rfl⟩)]
theorem opt_congr {e e' : Operand → Value} (x : Option Operand) (h : ∀ y, y ∈ x.toArray → e y = e' y) : x.map e = x.map e' := by
  cases x with
  | none => rfl
  | some y => simp [h y (by simp)]
theorem psem_congr {e e' : Operand → Value} {ty : TypeId} {op : Op} (h : ∀ x, x ∈ op.operands → e x = e' x) : psem e ty op = psem e' ty op := by
  cases op <;> simp only [Op.operands] at h <;> simp only [psem]
  case pick c a b => rw [h c (by simp), h a (by simp), h b (by simp)]
  case nilCheck x => rw [h x (by simp)]
  case binOp op t x y u => rw [h x (by simp), h y (by simp)]
  case unOp op t x => rw [h x (by simp)]
  case makeInterface t x => rw [h x (by simp)]
  case makeFunc fn first cap => rw [evs_congr first.toList fun x hx => h x (by simp at hx; simp [hx]), evs_congr cap.toList fun x hx => h x (by simp at hx; simp [hx])]
  case slice t x lo hi mx => rw [h x (by simp), opt_congr lo fun y hy => h y (by simp [hy]), opt_congr hi fun y hy => h y (by simp [hy]), opt_congr mx fun y hy => h y (by simp [hy])]
  case fieldAddr s x f => rw [h x (by simp)]
  case field t x f => rw [h x (by simp)]
  case indexAddr t x ix => rw [h x (by simp), h ix (by simp)]
  case index t x ix => rw [h x (by simp), h ix (by simp)]
  case extract t ix => rw [h t (by simp)]
  case build t parts => rw [parts_congr parts fun x hx => h x (by simpa using hx)]
  case call c =>
    have : evs e c.args.toList = evs e' c.args.toList := evs_congr _ fun x hx => h x (by simp at hx; simp [Call.operands, hx])
    rw [this]
theorem rsem_congr {e e' : Operand → Value} {op : Op} (h : ∀ x, x ∈ op.operands → e x = e' x) : rsem e op = rsem e' op := by
  cases op <;> simp only [Op.operands] at h <;> simp only [rsem]
  case load t x => rw [h x (by simp)]
  case convert s d x => rw [h x (by simp)]
  case lookup t x ix ok => rw [h x (by simp), h ix (by simp)]
  case typeAssert x a b c => rw [h x (by simp)]
theorem esem_congr {e e' : Operand → Value} {ty : TypeId} {op : Op} (h : ∀ x, x ∈ op.operands → e x = e' x) : esem e ty op = esem e' ty op := by
  cases op <;> simp only [Op.operands] at h <;> simp only [esem]
  case box t x => rw [h x (by simp)]
  case buildSlice t n parts => rw [parts_congr parts fun x hx => h x (by simpa using hx)]
  case makeMap t r => rw [opt_congr r h]
  case makeSlice t l c => rw [h l (by simp), h c (by simp)]
  case range t x => rw [h x (by simp)]
  case next it b => rw [h it (by simp)]
  case entry it => rw [h it (by simp)]
  case call c =>
    have : evs e c.args.toList = evs e' c.args.toList := evs_congr _ fun x hx => h x (by simp at hx; simp [Call.operands, hx])
    rw [this]
theorem usem_congr {e e' : Operand → Value} {op : Op} (h : ∀ x, x ∈ op.operands → e x = e' x) : usem e op = usem e' op := by
  cases op <;> simp only [Op.operands] at h <;> simp only [usem]
  case store t a x => rw [h a (by simp), h x (by simp)]
  case mapUpdate t m k x => rw [h m (by simp), h k (by simp), h x (by simp)]
  case insert t m k x => rw [h m (by simp), h k (by simp), h x (by simp)]
theorem moveOf_mem {op : Op} {x : Operand} (h : moveOf op = some x) : x ∈ op.operands := by
  cases op <;> simp [moveOf] at h <;> simp [Op.operands, h]
theorem callOf_mem {op : Op} {f : Operand} {args : Array Operand} (h : callOf op = some (f, args)) : f ∈ op.operands ∧ ∀ x, x ∈ args → x ∈ op.operands := by
  cases op <;> simp [callOf] at h
  case call c =>
    obtain ⟨callee, as, ts⟩ := c
    cases callee <;> simp at h
    obtain ⟨rfl, rfl⟩ := h
    exact ⟨by simp [Op.operands, Call.operands], fun x hx => by simp [Op.operands, Call.operands, hx]⟩
theorem execM_congr {P : Program} {e e' : Operand → Value} {op : Op} {ty : TypeId} {h : Heap} {k : Value → Heap → Prop} (H : ∀ x, x ∈ op.operands → e x = e' x) : execM P e op ty h k = execM P e' op ty h k := by
  unfold execM
  cases hm : moveOf op with
  | some x => simp only [H x (moveOf_mem hm)]
  | none =>
    cases hc : callOf op with
    | some p =>
      obtain ⟨f, args⟩ := p
      obtain ⟨h1, h2⟩ := callOf_mem hc
      simp only [H f h1, evs_congr args.toList fun x hx => H x (h2 x (by simpa using hx))]
    | none => simp only [psem_congr (ty := ty) H, rsem_congr H, esem_congr (ty := ty) H, usem_congr H]
theorem Yx_congr {P : Program} {e e' : Operand → Value} {op : Op} {ty : TypeId} {g : Heap} {v : Value} (H : ∀ x, x ∈ op.operands → e x = e' x) : Yx P e op ty g v = Yx P e' op ty g v := by
  unfold Yx
  cases hm : moveOf op with
  | some x => simp only [H x (moveOf_mem hm)]
  | none => simp only [psem_congr (ty := ty) H, rsem_congr H]

theorem hasN_iff : ∀ (l : List Nat) (n : Nat), hasN l n = false → n ∉ l
  | [], _, _ => by simp
  | x :: xs, n, h => by
    simp only [hasN, Bool.or_eq_false_iff] at h
    have h1 : x ≠ n := fun e => by subst e; simp at h
    simp only [List.mem_cons, not_or]
    exact ⟨fun e => h1 e.symm, hasN_iff xs n h.2⟩
/-- What was put is not looked at. -/
def Unseen (ops : List Oper) (dst : Option Tmp) (o : Oper) : Prop := ∀ d, dst = some d → d ∉ looks ops o
theorem ev_put {e : Env} {dst : Option Tmp} {u : Value} {x : Operand} (h : ∀ d, dst = some d → x ≠ .tmp d) : ev (put e dst u) x = ev e x := by
  cases dst with
  | none => rfl
  | some d =>
    cases x with
    | tmp t => simp only [put, ev]; exact lget_lset_ne _ _ _ _ fun he => h d rfl (by rw [he])
    | _ => rfl
theorem ev_unseen {ops : List Oper} {o : Oper} {dst : Option Tmp} {e : Env} {u : Value} (h : Unseen ops dst o) : ∀ x, x ∈ o.op.operands → ev (put e dst u) x = ev e x := by
  intro x hx
  refine ev_put fun d hd hxd => h d hd ?_
  subst hxd
  unfold looks
  exact List.mem_append_left _ (List.mem_filterMap.2 ⟨.tmp d, by simpa using hx, rfl⟩)
theorem gval_unseen {ops : List Oper} {o : Oper} {dst : Option Tmp} {e : Env} {u : Value} (h : Unseen ops dst o) {j : Nat} {want : Bool} (hg : o.guard = some (j, want)) : gval ops (put e dst u) j = gval ops e j := by
  unfold gval
  cases ht : gtmp ops j with
  | none => rfl
  | some t =>
    cases dst with
    | none => rfl
    | some d =>
      simp only [put]
      refine lget_lset_ne _ _ _ _ fun he => h d rfl ?_
      unfold looks
      rw [hg]
      simp [ht, he]
theorem stepV_put {P : Program} {ops : List Oper} {e : Env} {h : Heap} {o : Oper} {k : Value → Heap → Prop} {dst : Option Tmp} {u : Value} (hu : Unseen ops dst o) : stepV P ops (put e dst u) h o k = stepV P ops e h o k := by
  unfold stepV
  cases hg : o.guard with
  | none => exact execM_congr (ev_unseen hu)
  | some p =>
    obtain ⟨j, want⟩ := p
    have h2 : execM P (ev (put e dst u)) o.op o.type h = execM P (ev e) o.op o.type h := funext fun _ => execM_congr (ev_unseen hu)
    simp only [gval_unseen hu hg, h2]
theorem Yv_put {P : Program} {ops : List Oper} {e : Env} {g : Heap} {o : Oper} {v : Value} {dst : Option Tmp} {u : Value} (hu : Unseen ops dst o) : Yv P ops (put e dst u) g o v = Yv P ops e g o v := by
  unfold Yv
  cases hg : o.guard with
  | none => exact Yx_congr (ev_unseen hu)
  | some p =>
    obtain ⟨j, want⟩ := p
    simp only [gval_unseen hu hg, Yx_congr (ev_unseen hu)]
theorem put_comm {e : Env} {x y : Option Tmp} {u v : Value} (h : ∀ d, x = some d → y ≠ some d) : put (put e x u) y v = put (put e y v) x u := by
  cases x with
  | none => rfl
  | some d =>
    cases y with
    | none => rfl
    | some d' =>
      have hne : d ≠ d' := fun he => h d rfl (by rw [he])
      simp only [put, lset_getD]
      exact List.set_comm _ _ hne
theorem apart_spec {ops : List Oper} {x y : Oper} (h : apartL ops x y = true) : Unseen ops x.dst y ∧ (∀ d, x.dst = some d → y.dst ≠ some d) ∧ Unseen ops y.dst x := by
  unfold apartL at h
  simp only [Bool.and_eq_true] at h
  obtain ⟨h1, h2⟩ := h
  refine ⟨fun d hd => ?_, fun d hd hy => ?_, fun d hd => ?_⟩
  · rw [hd] at h1
    simp only [Bool.and_eq_true, Bool.not_eq_true'] at h1
    exact hasN_iff _ _ h1.1
  · rw [hd, hy] at h1
    simp at h1
  · rw [hd] at h2
    simp only [Bool.not_eq_true'] at h2
    exact hasN_iff _ _ h2
theorem pairsWith_spec {ops : List Oper} {x : Oper} {i : Nat} : ∀ (l : List Oper), pairsWith ops x i l = true → ∀ j y, onth l j = some y → apartL ops x y = true ∨ hasEdge y i = true
  | [], _, j, y, hy => by simp [onth] at hy
  | z :: zs, h, j, y, hy => by
    simp only [pairsWith, Bool.and_eq_true, Bool.or_eq_true] at h
    cases j with
    | zero => simp only [onth, Option.some.injEq] at hy; subst hy; exact h.1
    | succ j => exact pairsWith_spec zs h.2 j y hy
theorem pairsFrom_spec {ops : List Oper} : ∀ (l : List Oper) (k : Nat), pairsFrom ops l k = true → ∀ i j x y, i < j → onth l i = some x → onth l j = some y → apartL ops x y = true ∨ hasEdge y (k + i) = true
  | [], _, _, i, j, x, y, _, hx, _ => by simp [onth] at hx
  | z :: zs, k, h, i, j, x, y, hij, hx, hy => by
    simp only [pairsFrom, Bool.and_eq_true] at h
    cases j with
    | zero => omega
    | succ j =>
      cases i with
      | zero =>
        simp only [onth, Option.some.injEq] at hx
        subst hx
        exact pairsWith_spec zs h.1 j y hy
      | succ i =>
        have := pairsFrom_spec zs (k + 1) h.2 i j x y (by omega) hx hy
        rw [show k + (i + 1) = k + 1 + i by omega]
        exact this
/-- Two operations of the region, neither of which waits for the other, are apart. -/
theorem apart_of {ops : List Oper} (hp : pairsFrom ops ops 0 = true) {i j : Nat} {x y : Oper} (hx : onth ops i = some x) (hy : onth ops j = some y) (hne : j ≠ i) (h1 : hasEdge y i = false) (h2 : hasEdge x j = false) :
    Unseen ops x.dst y ∧ (∀ d, x.dst = some d → y.dst ≠ some d) ∧ Unseen ops y.dst x := by
  rcases Nat.lt_or_gt_of_ne hne with h | h
  · rcases pairsFrom_spec ops 0 hp j i y x h hy hx with h3 | h3
    · obtain ⟨a, b, c⟩ := apart_spec h3
      exact ⟨c, fun d hd hd' => b d hd' hd, a⟩
    · rw [Nat.zero_add, h2] at h3; cases h3
  · rcases pairsFrom_spec ops 0 hp i j x y h hx hy with h3 | h3
    · exact apart_spec h3
    · rw [Nat.zero_add, h1] at h3; cases h3

theorem mem_keepH {o : Oper} {s : Nat × (Heap → Prop)} : ∀ {S : Held}, s ∈ keepH o S ↔ s ∈ S ∧ hasEdge o s.1 = false
  | [] => by simp [keepH]
  | (i, p) :: S => by
    have ih := mem_keepH (o := o) (s := s) (S := S)
    unfold keepH
    cases h : hasEdge o i with
    | true =>
      simp only [ih, List.mem_cons]
      constructor
      · rintro ⟨a, b⟩; exact ⟨.inr a, b⟩
      · rintro ⟨a | a, b⟩
        · subst a; rw [h] at b; cases b
        · exact ⟨a, b⟩
    | false =>
      simp only [List.mem_cons, ih]
      constructor
      · rintro (a | ⟨a, b⟩)
        · subst a; exact ⟨.inl rfl, h⟩
        · exact ⟨.inr a, b⟩
      · rintro ⟨a | a, b⟩
        · exact .inl a
        · exact .inr ⟨a, b⟩
/-- Fewer things held ask for less. -/
theorem anyS_fewer {P : Program} {ops : List Oper} {K : Env → Heap → Prop} : ∀ (n : Nat) (l : List Bool) (e : Env) (h : Heap) (S S' : Held), (∀ s, s ∈ S' → s ∈ S ∨ ∀ g, s.2 g) → anyS P ops K n l e h S → anyS P ops K n l e h S'
  | 0, _, _, _, _, _, _, H => H
  | n + 1, l, e, h, S, S', hs, H => by
    refine ⟨H.1, fun i o hi => stepV_mono (fun v h' hv => ⟨fun hq => anyS_fewer n _ _ _ _ _ hs (hv.1 hq), fun hq => ?_⟩) (H.2 i o hi)⟩
    obtain ⟨h1, h2⟩ := hv.2 hq
    have hs' : ∀ s, s ∈ keepH o S' → s ∈ keepH o S ∨ ∀ g, s.2 g := fun s hm => by
      rw [mem_keepH] at *
      rcases hs _ hm.1 with h | h
      · exact .inl ⟨h, hm.2⟩
      · exact .inr h
    exact ⟨fun s hm => (hs' s hm).elim (h1 s) fun k => k _, anyS_fewer n _ _ _ _ _ hs' h2⟩

/-- A quiet operation that may come up may be taken first. -/
theorem anyS_first {P : Program} {ops : List Oper} {K : Env → Heap → Prop} (hp : pairsFrom ops ops 0 = true) {i : Nat} {oi : Oper} {v : Value} (hi : onth ops i = some oi) (hq : (isP oi.op || isR oi.op) = true) (p : Heap → Prop) :
    ∀ (n : Nat) (l : List Bool) (e : Env) (h : Heap) (S : Held), (∀ g, p g → Yv P ops e g oi v) → readyL l oi i = true → Yv P ops e h oi v →
      anyS P ops K n (setB l i) (put e oi.dst v) h ((i, p) :: S) → anyS P ops K (n + 1) l e h S := by
  intro n
  induction n with
  | zero =>
    intro l e h S hpy hr hy H
    refine ⟨fun h0 => ?_, fun j oj hj => ?_⟩
    · have := mem_readyAll.2 ⟨hi, hr⟩; rw [h0] at this; cases this
    · obtain ⟨hoj, hrj⟩ := mem_readyAll.1 hj
      by_cases hji : j = i
      · subst hji
        obtain rfl : oj = oi := by rw [hi] at hoj; exact (Option.some.inj hoj).symm
        rw [stepV_quiet hq]
        exact ⟨v, hy, fun _ => ⟨H.1, H.2⟩, fun hc => by rw [hq] at hc; cases hc⟩
      · have := mem_readyAll.2 ⟨hoj, readyL_mono hrj hji⟩
        rw [H.1] at this; cases this
  | succ n ih =>
    intro l e h S hpy hr hy H
    refine ⟨fun h0 => ?_, fun j oj hj => ?_⟩
    · have := mem_readyAll.2 ⟨hi, hr⟩; rw [h0] at this; cases this
    · obtain ⟨hoj, hrj⟩ := mem_readyAll.1 hj
      by_cases hji : j = i
      · subst hji
        obtain rfl : oj = oi := by rw [hi] at hoj; exact (Option.some.inj hoj).symm
        rw [stepV_quiet hq]
        exact ⟨v, hy, fun _ => anyS_fewer _ _ _ _ _ _ (fun s hs => .inl (by simp [hs])) H, fun hc => by rw [hq] at hc; cases hc⟩
      · have hli : lB l i true = false := (readyL_iff.1 hr).1
        have hlj : lB l j true = false := (readyL_iff.1 hrj).1
        have hnj : hasEdge oj i = false := no_edge hrj hli
        have hni : hasEdge oi j = false := no_edge hr hlj
        obtain ⟨a1, a2, a3⟩ := apart_of hp hi hoj hji hnj hni
        have H1 := H.2 j oj (mem_readyAll.2 ⟨hoj, readyL_mono hrj hji⟩)
        rw [stepV_put a1] at H1
        have hri : readyL (setB l j) oi i = true := readyL_mono hr (Ne.symm hji)
        by_cases hqj : (isP oj.op || isR oj.op) = true
        · rw [stepV_quiet hqj] at H1 ⊢
          obtain ⟨u, hu, H2⟩ := H1
          refine ⟨u, hu, fun _ => ?_, fun hc => by rw [hqj] at hc; cases hc⟩
          refine ih (setB l j) (put e oj.dst u) h S (fun g hg => by rw [Yv_put a3]; exact hpy g hg) hri (by rw [Yv_put a3]; exact hy) ?_
          rw [setB_comm, ← put_comm a2]
          exact H2.1 hqj
        · have hqj' : (isP oj.op || isR oj.op) = false := by simpa using hqj
          refine stepV_mono (fun u h' H2 => ⟨fun hc => absurd hc hqj, fun _ => ?_⟩) H1
          obtain ⟨h3, h4⟩ := H2.2 hqj'
          have hk : keepH oj ((i, p) :: S) = (i, p) :: keepH oj S := by simp [keepH, hnj]
          rw [hk] at h3 h4
          refine ⟨fun s hs => h3 s (by simp [hs]), ?_⟩
          refine ih (setB l j) (put e oj.dst u) h' (keepH oj S) (fun g hg => by rw [Yv_put a3]; exact hpy g hg) hri ?_ ?_
          · rw [Yv_put a3]
            exact hpy _ (h3 (i, p) (by simp))
          · rw [setB_comm, ← put_comm a2]
            exact h4

theorem firstQuiet_mem : ∀ {r : List (Nat × Oper)} {x : Nat × Oper}, firstQuiet r = some x → x ∈ r ∧ (isP x.2.op || isR x.2.op) = true
  | [], _, h => by simp [firstQuiet] at h
  | (i, o) :: r, x, h => by
    unfold firstQuiet at h
    cases hq : (isP o.op || isR o.op) with
    | true => rw [hq] at h; simp only [Option.some.injEq] at h; subst h; exact ⟨by simp, hq⟩
    | false => rw [hq] at h; have := firstQuiet_mem h; exact ⟨by simp [this.1], this.2⟩
theorem firstQuiet_none : ∀ {r : List (Nat × Oper)}, firstQuiet r = none → ∀ x, x ∈ r → (isP x.2.op || isR x.2.op) = false
  | [], _, x, hx => by simp at hx
  | (i, o) :: r, h, x, hx => by
    unfold firstQuiet at h
    cases hq : (isP o.op || isR o.op) with
    | true => rw [hq] at h; cases h
    | false =>
      rw [hq] at h
      rcases List.mem_cons.1 hx with rfl | hx
      · exact hq
      · exact firstQuiet_none h x hx
theorem allS_spec {h : Heap} {K : Prop} : ∀ {S : Held}, allS h K S → (∀ s, s ∈ S → s.2 h) ∧ K
  | [], H => ⟨fun s hs => by simp at hs, H⟩
  | (i, p) :: S, H => by
    obtain ⟨h1, h2⟩ := H
    obtain ⟨h3, h4⟩ := allS_spec h2
    refine ⟨fun s hs => ?_, h4⟩
    rcases List.mem_cons.1 hs with h | h
    · rw [h]; exact h1
    · exact h3 s h
theorem allL_spec {f : Nat → Oper → Prop} : ∀ {r : List (Nat × Oper)}, allL f r → ∀ i o, (i, o) ∈ r → f i o
  | [], _, i, o, h => by simp at h
  | [(j, x)], H, i, o, h => by simp at h; obtain ⟨rfl, rfl⟩ := h; exact H
  | (j, x) :: y :: r, H, i, o, h => by
    rcases List.mem_cons.1 h with h | h
    · cases h; exact H.1
    · exact allL_spec H.2 i o h
theorem anyS_of_wpDraw {P : Program} {ops : List Oper} {K : Env → Heap → Prop} (hp : pairsFrom ops ops 0 = true) : ∀ (n : Nat) (l : List Bool) (e : Env) (h : Heap) (S : Held), wpDraw P ops K n l e h S → anyS P ops K n l e h S
  | 0, l, e, h, S, H => by
    unfold wpDraw at H
    cases hr : readyAll ops 0 l with
    | nil => rw [hr] at H; exact ⟨hr, H⟩
    | cons x xs => rw [hr] at H; exact H.elim
  | n + 1, l, e, h, S, H => by
    unfold wpDraw at H
    cases hq : firstQuiet (readyAll ops 0 l) with
    | some x =>
      obtain ⟨i, o⟩ := x
      obtain ⟨hm, hqq⟩ := firstQuiet_mem hq
      obtain ⟨ho, hr⟩ := mem_readyAll.1 hm
      rw [hq] at H
      simp only at H
      cases hpu : isP o.op with
      | true =>
        rw [hpu] at H
        simp only at H
        rw [stepV_quiet hqq] at H
        obtain ⟨v, hv, H⟩ := H
        exact anyS_first hp ho hqq (fun _ => True) n l e h S (fun g _ => Yv_pure hpu hv g) hr hv
          (anyS_fewer _ _ _ _ _ _ (fun s hs => (List.mem_cons.1 hs).elim (fun h => .inr fun _ => by rw [h]; trivial) .inl) (anyS_of_wpDraw hp n _ _ _ _ H))
      | false =>
        rw [hpu] at H
        simp only at H
        rw [stepV_quiet hqq] at H
        obtain ⟨v, hv, H⟩ := H
        exact anyS_first hp ho hqq _ n l e h S (fun g hg => hg) hr hv (anyS_of_wpDraw hp n _ _ _ _ H)
    | none =>
      rw [hq] at H
      simp only at H
      cases hr : readyAll ops 0 l with
      | nil =>
        rw [hr] at H
        exact ⟨fun _ => H, fun i o hi => by rw [hr] at hi; cases hi⟩
      | cons x xs =>
        rw [hr] at H
        simp only at H
        refine ⟨fun h0 => (by rw [hr] at h0; cases h0), fun i o hi => ?_⟩
        rw [hr] at hi
        have H1 := allL_spec H i o hi
        refine stepV_mono (fun v h' hv => ⟨fun hc => ?_, fun _ => ?_⟩) H1
        · have := firstQuiet_none hq (i, o) (by rw [hr]; exact hi)
          rw [hc] at this; cases this
        · obtain ⟨h1, h2⟩ := allS_spec hv
          exact ⟨h1, anyS_of_wpDraw hp n _ _ _ _ h2⟩

/-! ### The machine's orders -/
theorem lB_getD (l : Array Bool) (i : Nat) (d : Bool) : lB l.toList i d = l.getD i d := by
  have key : ∀ (l : List Bool) (i : Nat), lB l i d = l[i]?.getD d := by
    intro l
    induction l with
    | nil => intro i; simp [lB]
    | cons x xs ih => intro i; cases i <;> simp [lB, ih]
  rw [key]; simp
theorem setB_toList (l : Array Bool) (i : Nat) : setB l.toList i = (l.setIfInBounds i true).toList := by
  have key : ∀ (l : List Bool) (i : Nat), setB l i = l.set i true := by
    intro l
    induction l with
    | nil => intro i; rfl
    | cons x xs ih => intro i; cases i <;> simp [setB, ih]
  rw [key]; simp
theorem ready_same {ops : Array Oper} {l : Array Bool} {i : Nat} : i ∈ Region.ready .any ops l ↔ ∃ o, (i, o) ∈ readyAll ops.toList 0 l.toList := by
  rw [mem_ready]
  constructor
  · rintro ⟨h0, o, ho, h⟩
    refine ⟨o, mem_readyAll.2 ⟨by rw [onth_eq]; exact ho, readyL_iff.2 ⟨by rw [lB_getD]; exact h0, fun e he hb => by rw [lB_getD]; exact h e he hb⟩⟩⟩
  · rintro ⟨o, h⟩
    obtain ⟨ho, hr⟩ := mem_readyAll.1 h
    obtain ⟨h0, h1⟩ := readyL_iff.1 hr
    exact ⟨by rw [← lB_getD]; exact h0, o, by rw [← onth_eq]; exact ho, fun e he hb => by rw [← lB_getD]; exact h1 e he hb⟩
theorem ready_nil {ops : Array Oper} {l : Array Bool} : Region.ready .any ops l = [] ↔ readyAll ops.toList 0 l.toList = [] := by
  constructor
  · intro h
    cases hr : readyAll ops.toList 0 l.toList with
    | nil => rfl
    | cons x xs =>
      have : x.1 ∈ Region.ready .any ops l := ready_same.2 ⟨x.2, by rw [hr]; simp⟩
      rw [h] at this; cases this
  · intro h
    cases hr : Region.ready .any ops l with
    | nil => rfl
    | cons x xs =>
      obtain ⟨o, ho⟩ := ready_same.1 (show x ∈ Region.ready .any ops l by rw [hr]; simp)
      rw [h] at ho; cases ho
theorem wpAny_of_anyS {P : Program} {ops : Array Oper} {Q : Exit → Act → World → Prop} {K : Env → Heap → Prop} {w0 : World} (hQ : ∀ a w, Same w0 w → K a.tmps.toList w.heap → a.defers = [] → Q .normal a w) :
    ∀ (n : Nat) (l : Array Bool) (a : Act) (w : World) (S : Held), a.defers = [] → Same w0 w → anyS P ops.toList K n l.toList a.tmps.toList w.heap S → wpAny P .any ops Q n l a w
  | 0, l, a, w, S, hd, hs, H => ⟨ready_nil.2 H.1, hQ a w hs H.2 hd⟩
  | n + 1, l, a, w, S, hd, hs, H => by
    refine ⟨fun h => hQ a w hs (H.1 (ready_nil.1 h)) hd, fun i hi => ?_⟩
    obtain ⟨o, ho⟩ := ready_same.1 hi
    refine wpOp_of_stepV (by rw [← onth_eq]; exact (mem_readyAll.1 ho).1) (stepV_mono (fun v h' hv => ?_) (H.2 i o ho))
    intro w' hw' hh'
    subst hh'
    have hd' : (a.put o.dst v).defers = [] := by rw [put_defers]; exact hd
    cases hq : (isP o.op || isR o.op) with
    | true =>
      have := hv.1 hq
      rw [setB_toList, ← put_toList] at this
      exact wpAny_of_anyS hQ n _ _ _ _ hd' (hs.trans hw') this
    | false =>
      have := (hv.2 hq).2
      rw [setB_toList, ← put_toList] at this
      exact wpAny_of_anyS hQ n _ _ _ _ hd' (hs.trans hw') this
theorem wpOps_of_wpIn {P : Program} {ops : Array Oper} {Q : Exit → Act → World → Prop} {K : Env → Heap → Prop} {w0 : World} (hQ : ∀ a w, Same w0 w → K a.tmps.toList w.heap → a.defers = [] → Q .normal a w) :
    ∀ (l : List Oper) (k : Nat) (a : Act) (w : World), (∀ j, onth l j = onth ops.toList (k + j)) → a.defers = [] → Same w0 w → wpIn P ops.toList l a.tmps.toList w.heap K → wpOps P ops Q (List.range' k l.length) a w
  | [], k, a, w, _, hd, hs, H => by simpa [wpOps] using hQ a w hs H hd
  | o :: os, k, a, w, hl, hd, hs, H => by
    simp only [List.length_cons, List.range'_succ]
    rw [wpOps_cons]
    have ho : ops[k]? = some o := by rw [← onth_eq]; have := hl 0; simp only [onth, Nat.add_zero] at this; exact this.symm
    refine wpOp_of_stepV ho (stepV_mono (fun v h' hv => ?_) H)
    intro w' hw' hh'
    subst hh'
    refine wpOps_of_wpIn hQ os (k + 1) _ _ (fun j => ?_) (by rw [put_defers]; exact hd) (hs.trans hw') (by rw [put_toList]; exact hv)
    have := hl (j + 1)
    simp only [onth] at this
    rw [this, show k + (j + 1) = k + 1 + j by omega]

/-! ### Code -/
def falses : List Oper → List Bool
  | [] => []
  | _ :: os => false :: falses os
def len : List Oper → Nat
  | [] => 0
  | _ :: os => len os + 1
def regM (P : Program) (ops : List Oper) (draw : Bool) (e : Env) (h : Heap) (K : Env → Heap → Prop) : Prop :=
  match draw with
  | false => wpIn P ops ops e h K
  | true => match pairsFrom ops ops 0 with
    | true => wpDraw P ops K (len ops) (falses ops) e h []
    | false => False
def dsts : List Oper → List Nat
  | [] => []
  | o :: os => match o.dst with
    | some d => d :: dsts os
    | none => dsts os
def writes : Code → List Nat
  | .region _ ops _ => dsts ops.toList
  | .seq a b => writes a ++ writes b
  | .cond _ a b => writes a ++ writes b
  | .block _ c => writes c
  | .loop c => writes c
  | _ => []
def forallN : Nat → (List Value → Prop) → Prop
  | 0, f => f []
  | n + 1, f => ∀ v, forallN n fun vs => f (v :: vs)
def lenN : List Nat → Nat
  | [] => 0
  | _ :: xs => lenN xs + 1
def wpC (P : Program) (an : Nat → Option (List Nat)) : Code → Nat → (Env → Heap → Prop) → (Nat → Env → Heap → Prop) → (Env → Heap → Prop) → Env → Heap → Prop
  | .skip, _, kn, _, _, e, h => kn e h
  | .region _ ops draw, _, kn, _, _, e, h => regM P ops.toList draw e h kn
  | .seq a b, p, kn, kx, kr, e, h => match an p with
    | none => wpC P an a (2 * p) (fun e' h' => wpC P an b (2 * p + 1) kn kx kr e' h') kx kr e h
    | some L => ∃ J : List Value → Heap → Prop, wpC P an a (2 * p) (fun e' h' => J (getMany e' L) h') kx kr e h ∧
        ∀ (junk : Nat → Value), forallN (lenN L) fun vs => ∀ h' : Heap, J vs h' → wpC P an b (2 * p + 1) kn kx kr (setMany (junkMany e junk (writes a)) L vs) h'
  | .cond c a b, p, kn, kx, kr, e, h => condM (ev e c) (wpC P an a (2 * p) kn kx kr e h) (wpC P an b (2 * p + 1) kn kx kr e h)
  | .block id c, p, kn, kx, kr, e, h => wpC P an c (2 * p) kn (fun i e' h' => match Nat.beq i id with
    | true => kn e' h'
    | false => kx i e' h') kr e h
  | .loop c, p, _, kx, kr, e, h => match an p with
    | none => False
    | some L => ∃ (I : List Value → Heap → Prop) (μ : List Value → Heap → Nat), I (getMany e L) h ∧
        ∀ (junk : Nat → Value), forallN (lenN L) fun vs => ∀ h' : Heap, I vs h' →
          wpC P an c (2 * p) (fun e'' h'' => I (getMany e'' L) h'' ∧ μ (getMany e'' L) h'' < μ vs h') kx kr (setMany (junkMany e junk (writes c)) L vs) h'
  | .exit id, _, _, kx, _, e, h => kx id e h
  | .ret, _, _, _, kr, e, h => kr e h
  | .label _, _, kn, _, _, e, h => kn e h
  | _, _, _, _, _, _, _ => False

/-- Off these slots the environment is as it was. -/
structure Off (D : List Nat) (e e' : Env) : Prop where
  len : e'.length = e.length
  same : ∀ t, t ∉ D → lget e' t = lget e t
theorem Off.refl (D : List Nat) (e : Env) : Off D e e := ⟨rfl, fun _ _ => rfl⟩
theorem Off.trans {D : List Nat} {a b c : Env} (h : Off D a b) (k : Off D b c) : Off D a c := ⟨k.len.trans h.len, fun t ht => (k.same t ht).trans (h.same t ht)⟩
theorem Off.mono {D D' : List Nat} {a b : Env} (h : Off D a b) (hD : ∀ t, t ∈ D → t ∈ D') : Off D' a b := ⟨h.len, fun t ht => h.same t fun hm => ht (hD t hm)⟩
theorem Off.put {D : List Nat} {a b : Env} (h : Off D a b) {dst : Option Tmp} (hd : ∀ d, dst = some d → d ∈ D) (v : Value) : Off D a (put b dst v) := by
  cases dst with
  | none => exact h
  | some d =>
    refine ⟨by simp only [Mx.put]; rw [length_lset]; exact h.len, fun t ht => ?_⟩
    simp only [Mx.put]
    rw [lget_lset_ne _ _ _ _ fun he => ht (by rw [← he]; exact hd d rfl)]
    exact h.same t ht

theorem length_junk : ∀ (D : List Nat) (e : Env) (j : Nat → Value), (junkMany e j D).length = e.length
  | [], _, _ => rfl
  | t :: ts, e, j => by simp only [junkMany]; rw [length_junk ts, length_lset]
theorem lget_junk : ∀ (D : List Nat) (e : Env) (j : Nat → Value) (t : Nat), t < e.length → lget (junkMany e j D) t = if t ∈ D then j t else lget e t
  | [], _, _, _, _ => by simp [junkMany]
  | d :: ds, e, j, t, ht => by
    simp only [junkMany]
    rw [lget_junk ds _ _ _ (by rw [length_lset]; exact ht)]
    by_cases h1 : t ∈ ds
    · simp [h1]
    · simp only [h1, if_false, List.mem_cons, or_false]
      by_cases h2 : t = d
      · subst h2; simp [lget_lset_eq _ _ _ ht]
      · simp only [h2, if_false]; exact lget_lset_ne _ _ _ _ (Ne.symm h2)
theorem setMany_get : ∀ (L : List Nat) (e : Env), setMany e L (getMany e L) = e
  | [], _ => rfl
  | t :: ts, e => by
    have h0 : lset e t (lget e t) = e := env_ext _ _ (length_lset _ _ _) fun s hs => by
      rw [length_lset] at hs
      by_cases h : t = s
      · subst h; exact lget_lset_eq _ _ _ hs
      · exact lget_lset_ne _ _ _ _ h
    simp only [getMany, setMany, h0]
    exact setMany_get ts e
theorem env_of_off {D : List Nat} {e e' : Env} (h : Off D e e') (L : List Nat) : setMany (junkMany e (lget e') D) L (getMany e' L) = e' := by
  have h0 : junkMany e (lget e') D = e' := env_ext _ _ (by rw [length_junk, h.len]) fun t ht => by
    rw [length_junk] at ht
    rw [lget_junk _ _ _ _ ht]
    by_cases hm : t ∈ D
    · simp [hm]
    · simp [hm, h.same t hm]
  rw [h0]
  exact setMany_get L e'
theorem length_getMany : ∀ (L : List Nat) (e : Env), (getMany e L).length = lenN L
  | [], _ => rfl
  | _ :: ts, e => by simp [getMany, lenN, length_getMany ts e]
theorem forallN_spec : ∀ (n : Nat) (f : List Value → Prop), forallN n f → ∀ vs : List Value, vs.length = n → f vs
  | 0, f, h, vs, hv => by rw [List.eq_nil_of_length_eq_zero hv]; exact h
  | n + 1, f, h, [], hv => by simp at hv
  | n + 1, f, h, v :: vs, hv => forallN_spec n (fun vs => f (v :: vs)) (h v) vs (by simpa using hv)

def PostC (D : List Nat) (kn : Env → Heap → Prop) (kx : Nat → Env → Heap → Prop) (kr : Env → Heap → Prop) (e0 : Env) (w0 : World) : Exit → Act → World → Prop
  | .normal, a, w => a.defers = [] ∧ Same w0 w ∧ Off D e0 a.tmps.toList ∧ kn a.tmps.toList w.heap
  | .exit id, a, w => a.defers = [] ∧ Same w0 w ∧ Off D e0 a.tmps.toList ∧ kx id a.tmps.toList w.heap
  | .ret, a, w => a.defers = [] ∧ Same w0 w ∧ Off D e0 a.tmps.toList ∧ kr a.tmps.toList w.heap
  | _, _, _ => False
theorem PostC.weaken {D D' : List Nat} {kn kn' : Env → Heap → Prop} {kx kx' : Nat → Env → Heap → Prop} {kr : Env → Heap → Prop} {e0 e1 : Env} {w0 w1 : World} (hD : ∀ t, t ∈ D → t ∈ D') (hw : Same w0 w1) (he : Off D' e0 e1)
    (hn : ∀ e h, kn e h → kn' e h) (hx : ∀ i e h, kx i e h → kx' i e h) {x : Exit} {a : Act} {w : World} (H : PostC D kn kx kr e1 w1 x a w) : PostC D' kn' kx' kr e0 w0 x a w := by
  cases x <;> first
    | exact ⟨H.1, hw.trans H.2.1, he.trans (H.2.2.1.mono hD), hn _ _ H.2.2.2⟩
    | exact ⟨H.1, hw.trans H.2.1, he.trans (H.2.2.1.mono hD), hx _ _ _ H.2.2.2⟩
    | exact ⟨H.1, hw.trans H.2.1, he.trans (H.2.2.1.mono hD), H.2.2.2⟩
    | exact H

theorem PostC.weakenX {D D' : List Nat} {kn kn' : Env → Heap → Prop} {kx : Nat → Env → Heap → Prop} {kr : Env → Heap → Prop} {e0 e1 : Env} {w0 w1 : World} (hD : ∀ t, t ∈ D → t ∈ D') (hw : Same w0 w1) (he : Off D' e0 e1)
    {x : Exit} {a : Act} {w : World} (hx : x ≠ .normal) (H : PostC D kn kx kr e1 w1 x a w) : PostC D' kn' kx kr e0 w0 x a w := by
  cases x <;> first
    | exact absurd rfl hx
    | exact ⟨H.1, hw.trans H.2.1, he.trans (H.2.2.1.mono hD), H.2.2.2⟩
    | exact H

theorem mem_dsts : ∀ (ops : List Oper) (j : Nat) (o : Oper), onth ops j = some o → ∀ d, o.dst = some d → d ∈ dsts ops
  | [], j, o, h, _, _ => by simp [onth] at h
  | x :: xs, 0, o, h, d, hd => by simp only [onth, Option.some.injEq] at h; subst h; simp [dsts, hd]
  | x :: xs, j + 1, o, h, d, hd => by
    have := mem_dsts xs j o h d hd
    unfold dsts
    cases x.dst <;> simp [this]
theorem wpIn_off {P : Program} {ops : List Oper} {K : Env → Heap → Prop} {e0 : Env} {D : List Nat} : ∀ (l : List Oper) (e : Env) (h : Heap), (∀ j o, onth l j = some o → ∀ d, o.dst = some d → d ∈ D) → Off D e0 e → wpIn P ops l e h K → wpIn P ops l e h fun e' h' => Off D e0 e' ∧ K e' h'
  | [], e, h, _, ho, H => ⟨ho, H⟩
  | o :: os, e, h, hl, ho, H => stepV_mono (fun v h' hv => wpIn_off os _ _ (fun j x hx => hl (j + 1) x hx) (ho.put (hl 0 o rfl) v) hv) H
theorem anyS_off {P : Program} {ops : List Oper} {K : Env → Heap → Prop} {e0 : Env} : ∀ (n : Nat) (l : List Bool) (e : Env) (h : Heap) (S : Held), Off (dsts ops) e0 e → anyS P ops K n l e h S → anyS P ops (fun e' h' => Off (dsts ops) e0 e' ∧ K e' h') n l e h S
  | 0, l, e, h, S, ho, H => ⟨H.1, ho, H.2⟩
  | n + 1, l, e, h, S, ho, H => ⟨fun h0 => ⟨ho, H.1 h0⟩, fun i o hi => stepV_mono (fun v h' hv =>
      ⟨fun hq => anyS_off n _ _ _ _ (ho.put (mem_dsts ops i o (mem_readyAll.1 hi).1) v) (hv.1 hq), fun hq => ⟨(hv.2 hq).1, anyS_off n _ _ _ _ (ho.put (mem_dsts ops i o (mem_readyAll.1 hi).1) v) (hv.2 hq).2⟩⟩) (H.2 i o hi)⟩

theorem len_eq (ops : Array Oper) : Mx.len ops.toList = ops.size := by
  have key : ∀ l : List Oper, Mx.len l = l.length := by intro l; induction l <;> simp [Mx.len, *]
  rw [key]; simp
theorem falses_eq (ops : Array Oper) : falses ops.toList = (Array.replicate ops.size false).toList := by
  have key : ∀ l : List Oper, falses l = List.replicate l.length false := by
    intro l
    induction l with
    | nil => rfl
    | cons x xs ih => simp [falses, ih, List.replicate_succ]
  rw [key]; simp

theorem wpC_sound {P : Program} (hm : P.follows .mixedOrders = true) (an : Nat → Option (List Nat)) : ∀ (c : Code) (p : Nat) (kn : Env → Heap → Prop) (kx : Nat → Env → Heap → Prop) (kr : Env → Heap → Prop) (a : Act) (w : World),
    a.defers = [] → wpC P an c p kn kx kr a.tmps.toList w.heap → c.wp P (PostC (writes c) kn kx kr a.tmps.toList w) a w := by
  intro c
  induction c with
  | skip => intro p kn kx kr a w hd H; exact wp_skip ⟨hd, Same.refl w, Off.refl _ _, H⟩
  | region id ops draw =>
    intro p kn kx kr a w hd H
    simp only [wpC, regM] at H
    cases draw with
    | false =>
      simp only at H
      have H' := wpIn_off (D := dsts ops.toList) ops.toList _ _ (fun j o ho d hdd => mem_dsts _ j o ho d hdd) (Off.refl _ _) H
      have := wpOps_of_wpIn (P := P) (ops := ops) (Q := PostC (dsts ops.toList) kn kx kr a.tmps.toList w) (w0 := w) (fun a' w' hs hk hd' => ⟨hd', hs, hk.1, hk.2⟩) ops.toList 0 a w (fun j => by rw [Nat.zero_add]) hd (Same.refl w) H'
      refine wp_region ?_
      rw [List.range_eq_range']
      have hl : ops.toList.length = ops.size := by simp
      rw [hl] at this
      exact this
    | true =>
      simp only at H
      cases hp : pairsFrom ops.toList ops.toList 0 with
      | false => rw [hp] at H; exact H.elim
      | true =>
        rw [hp] at H
        simp only at H
        have H' := anyS_off _ _ _ _ _ (Off.refl _ a.tmps.toList) (anyS_of_wpDraw hp _ _ _ _ _ H)
        rw [len_eq, falses_eq] at H'
        refine wp_region_any hm ?_
        exact wpAny_of_anyS (w0 := w) (fun a' w' hs hk hd' => ⟨hd', hs, hk.1, hk.2⟩) ops.size _ a { w with drawn := w.drawn + 1 } [] hd ⟨rfl, rfl, rfl⟩ H'
  | seq x y ihx ihy =>
    intro p kn kx kr a w hd H
    simp only [wpC] at H
    refine wp_seq ?_
    cases hp : an p with
    | none =>
      rw [hp] at H
      refine wp_mono (ihx _ _ _ _ a w hd H) fun e a' w' hq => ?_
      cases e with
      | normal =>
        obtain ⟨h1, h2, h3, h4⟩ := hq
        exact wp_mono (ihy _ _ _ _ a' w' h1 h4) fun e a'' w'' hq' => hq'.weaken (fun t ht => List.mem_append_right _ ht) h2 (h3.mono fun t ht => List.mem_append_left _ ht) (fun _ _ h => h) (fun _ _ _ h => h)
      | _ => exact PostC.weakenX (kn' := kn) (D' := writes x ++ writes y) (fun t ht => List.mem_append_left _ ht) (Same.refl w) (Off.refl _ _) (by simp) hq
    | some L =>
      rw [hp] at H
      obtain ⟨J, H1, H2⟩ := H
      refine wp_mono (ihx _ _ _ _ a w hd H1) fun e a' w' hq => ?_
      cases e with
      | normal =>
        obtain ⟨h1, h2, h3, h4⟩ := hq
        have H3 := forallN_spec _ _ (H2 (lget a'.tmps.toList)) (getMany a'.tmps.toList L) (length_getMany _ _) _ h4
        rw [env_of_off h3] at H3
        exact wp_mono (ihy _ _ _ _ a' w' h1 H3) fun e a'' w'' hq' => hq'.weaken (fun t ht => List.mem_append_right _ ht) h2 (h3.mono fun t ht => List.mem_append_left _ ht) (fun _ _ h => h) (fun _ _ _ h => h)
      | _ => exact PostC.weakenX (kn' := kn) (D' := writes x ++ writes y) (fun t ht => List.mem_append_left _ ht) (Same.refl w) (Off.refl _ _) (by simp) hq
  | cond c x y ihx ihy =>
    intro p kn kx kr a w hd H
    simp only [wpC] at H
    obtain ⟨t, ht, h1, h2⟩ := H
    rw [ev_toList] at ht
    refine wp_cond_split ht (fun h => ?_) (fun h => ?_)
    · exact wp_mono (ihx _ _ _ _ a w hd (h1 h)) fun e a' w' hq => hq.weaken (fun t ht => List.mem_append_left _ ht) (Same.refl w) (Off.refl _ _) (fun _ _ h => h) (fun _ _ _ h => h)
    · exact wp_mono (ihy _ _ _ _ a w hd (h2 h)) fun e a' w' hq => hq.weaken (fun t ht => List.mem_append_right _ ht) (Same.refl w) (Off.refl _ _) (fun _ _ h => h) (fun _ _ _ h => h)
  | block id x ih =>
    intro p kn kx kr a w hd H
    simp only [wpC] at H
    refine wp_block (wp_mono (ih _ _ _ _ a w hd H) fun e a' w' hq => ?_)
    cases e with
    | exit i =>
      obtain ⟨h1, h2, h3, h4⟩ := hq
      simp only [Exit.inBlock]
      by_cases hi : i = id
      · subst hi
        simp only [if_true]
        have hb : Nat.beq i i = true := by simp
        rw [hb] at h4
        exact ⟨h1, h2, h3, h4⟩
      · simp only [hi, if_false]
        have hb : Nat.beq i id = false := by
          cases hb : Nat.beq i id with
          | false => rfl
          | true => exact absurd (Nat.eq_of_beq_eq_true hb) hi
        rw [hb] at h4
        exact ⟨h1, h2, h3, h4⟩
    | _ => exact hq
  | loop x ih =>
    intro p kn kx kr a w hd H
    simp only [wpC] at H
    cases hp : an p with
    | none => rw [hp] at H; exact H.elim
    | some L =>
      rw [hp] at H
      obtain ⟨I, μ, H0, H1⟩ := H
      refine wp_loop (fun a' w' => a'.defers = [] ∧ Same w w' ∧ Off (writes x) a.tmps.toList a'.tmps.toList ∧ I (getMany a'.tmps.toList L) w'.heap) (fun a' w' => μ (getMany a'.tmps.toList L) w'.heap) ⟨hd, Same.refl w, Off.refl _ _, H0⟩ ?_
      rintro a' w' ⟨h1, h2, h3, h4⟩
      have H3 := forallN_spec _ _ (H1 (lget a'.tmps.toList)) (getMany a'.tmps.toList L) (length_getMany _ _) _ h4
      rw [env_of_off h3] at H3
      refine wp_mono (ih _ _ _ _ a' w' h1 H3) fun e a'' w'' hq => ?_
      cases e with
      | normal => exact ⟨⟨hq.1, h2.trans hq.2.1, h3.trans hq.2.2.1, hq.2.2.2.1⟩, hq.2.2.2.2⟩
      | _ => exact PostC.weakenX (kn' := fun _ _ => True) (fun t ht => ht) h2 h3 (by simp) hq
  | rangeFunc f params assign body => intro p kn kx kr a w hd H; exact H.elim
  | exit id => intro p kn kx kr a w hd H; exact wp_exit ⟨hd, Same.refl w, Off.refl _ _, H⟩
  | scope body => intro p kn kx kr a w hd H; exact H.elim
  | label l => intro p kn kx kr a w hd H; exact wp_label ⟨hd, Same.refl w, Off.refl _ _, H⟩
  | goto l => intro p kn kx kr a w hd H; exact H.elim
  | ret => intro p kn kx kr a w hd H; exact wp_ret ⟨hd, Same.refl w, Off.refl _ _, H⟩
  | refuse why => intro p kn kx kr a w hd H; exact H.elim

/-! ### A function -/
def undefs : Nat → Env
  | 0 => []
  | n + 1 => undef :: undefs n
def resTmps : List ResultVar → Option (List Tmp)
  | [] => some []
  | .tmp t :: rs => (resTmps rs).map (t :: ·)
  | .cell _ _ :: _ => none
/-- The results, one after the other. -/
def resSem (e : Env) : List ResultVar → Sem (List Value)
  | [] => pure []
  | .tmp t :: rs => do pure (lget e t :: (← resSem e rs))
  | .cell a t :: rs => do
    let v ← loadVar t (← asAddr (lget e a))
    pure (v :: (← resSem e rs))
def oneOf : List Value → Value
  | [v] => v
  | vs => .tuple vs.toArray
/-- Results in turn: each is a slot, or is loaded. -/
def resM (P : Program) (e : Nat → Value) (h : Heap) (K : Value → Heap → Prop) : List ResultVar → List Value → Prop
  | [], acc => K (oneOf acc.reverse) h
  | .tmp t :: rs, acc => resM P e h K rs (e t :: acc)
  | .cell a t :: rs, acc => rop P (Instr.loadAt t (e a)) h fun v => resM P e h K rs (v :: acc)
def retM (P : Program) (rs : List ResultVar) (e : Env) (h : Heap) (K : Value → Heap → Prop) : Prop := resM P (lget e) h K rs []

theorem results_run {P : Program} {fn : Func} {a : Array Value} {h : Heap} {K : Value → Heap → Prop} (H : retM P fn.results.toList a.toList h K) : ∃ v, (∀ w : World, w.heap = h → (results fn a).run P w = .ok v w) ∧ K v h := by
  have hres : ∀ (w : World), (results fn a).run P w = ((fn.results.toList.mapM fun r => (match r with
      | .tmp t => pure (a.getD t undef)
      | .cell b t => do loadVar t (← asAddr (a.getD b undef)) : Sem Value)).bind fun l => Sem.pure (oneOf l)).run P w := by
    intro w
    unfold results
    rw [Array.mapM_eq_mapM_toList]
    simp only [map_eq_pure_bind, bind_assoc, pure_bind]
    show Sem.run P (Sem.bind _ _) w = _
    rw [Sem.run_bind', Sem.run_bind']
    congr 1
    funext l w'
    match l with
    | [] => rfl
    | [x] => rfl
    | x :: y :: l => simp [oneOf]
  have key : ∀ (rs : List ResultVar) (acc : List Value), resM P (lget a.toList) h K rs acc → ∃ l, (∀ w : World, w.heap = h → (rs.mapM fun r => (match r with
      | .tmp t => pure (a.getD t undef)
      | .cell b t => do loadVar t (← asAddr (a.getD b undef)) : Sem Value)).run P w = .ok l w) ∧ K (oneOf (acc.reverse ++ l)) h := by
    intro rs
    induction rs with
    | nil => intro acc H; exact ⟨[], fun w hw => rfl, by simpa [resM] using H⟩
    | cons r rs ih =>
      intro acc H
      cases r with
      | tmp t =>
        obtain ⟨l, h1, h2⟩ := ih _ H
        refine ⟨a.getD t undef :: l, fun w hw => ?_, by simpa [lget_toList] using h2⟩
        rw [List.mapM_cons]
        simp only [pure_bind]
        show Sem.run P (Sem.bind _ _) w = _
        rw [Sem.run_bind', h1 w hw]
        rfl
      | cell b t =>
        obtain ⟨v, hv, H⟩ := H
        obtain ⟨l, h1, h2⟩ := ih _ H
        refine ⟨v :: l, fun w hw => ?_, by simpa using h2⟩
        rw [List.mapM_cons]
        have h3 : (do loadVar t (← asAddr (a.getD b undef)) : Sem Value).run P w = .ok v w := by
          have := hv w hw
          unfold Instr.loadAt at this
          rw [← lget_toList]
          have e1 : (do loadVar t (← Instr.sureAddr (lget a.toList b)) : Sem Value) = (Instr.sureAddr (lget a.toList b)).bind fun x => loadVar t x := rfl
          have e2 : (do loadVar t (← asAddr (lget a.toList b)) : Sem Value) = (asAddr (lget a.toList b)).bind fun x => loadVar t x := rfl
          rw [e1] at this
          rw [e2]
          cases hx : lget a.toList b with
          | pointer q =>
            rw [hx] at this
            cases q with
            | some q => exact this
            | none => simp [Instr.sureAddr, stuck, Sem.bind, Sem.run] at this
          | _ => rw [hx] at this; simp [Instr.sureAddr, stuck, Sem.bind, Sem.run] at this
        show Sem.run P (Sem.bind _ _) w = _
        rw [Sem.run_bind', h3]
        show Sem.run P (Sem.bind _ _) w = _
        rw [Sem.run_bind', h1 w hw]
        rfl
  obtain ⟨l, h1, h2⟩ := key _ _ H
  refine ⟨oneOf l, fun w hw => ?_, by simpa using h2⟩
  rw [hres, Sem.run_bind', h1 w hw]
  rfl

/-- A function that has a body of its own. -/
def Func.plain (fn : Func) : Bool := !(fn.name == "runtime.NumGoroutine") && fn.body.isSome

theorem callM_of_wpC {P : Program} (hm : P.follows .mixedOrders = true) {f : FuncId} {fn : Func} {c : Code} (hf : P.funcs[f]? = some fn) (hb : fn.body = some c) (hn : (fn.name == "runtime.NumGoroutine") = false)
    (an : Nat → Option (List Nat)) {args : List Value} {h : Heap} {K : Value → Heap → Prop} (n : Nat) (hk : fn.ntmps - args.length = n) (rs : List ResultVar) (hr : fn.results.toList = rs)
    (H : wpC P an c 1 (fun e h => retM P rs e h K) (fun _ _ _ => False) (fun e h => retM P rs e h K) (args ++ undefs n) h) : callM P f args.toArray h K := by
  refine ⟨fun w hw => ?_⟩
  refine .inr ⟨f, args.toArray, w, ?_, rfl, ?_⟩
  · show Sem.run P (Sem.bind program _) w = _
    rw [Sem.run_bind']
    have hn' : ¬ fn.name = "runtime.NumGoroutine" := by simpa using hn
    simp [program, Sem.run, hf, hn', hb, pure]
  · subst hw hr hk
    refine calls_of_wp hf hb ?_
    have hu : ∀ n, undefs n = List.replicate n undef := by intro n; induction n <;> simp [undefs, List.replicate_succ, *]
    have e1 : (args.toArray ++ Array.replicate (fn.ntmps - args.toArray.size) undef).toList = args ++ undefs (fn.ntmps - args.length) := by
      rw [hu]; simp
    have := wpC_sound hm an c 1 _ _ _ { tmps := args.toArray ++ Array.replicate (fn.ntmps - args.toArray.size) undef, defers := [] } w rfl (by rw [e1]; exact H)
    refine wp_mono this fun e a w' hq => ?_
    cases e <;> first
      | exact hq.elim
      | exact hq.2.2.2.elim
      | (obtain ⟨h1, h2, h3, h4⟩ := hq
         obtain ⟨v, h5, h6⟩ := results_run h4
         exact ⟨h1, v, h5 w' rfl, v, rfl, h2, h6⟩)

def bodyOf (fn : Func) : Code :=
  match fn.body with
  | some c => c
  | none => .skip
def anOf : List (Nat × List Nat) → Nat → Option (List Nat)
  | [], _ => none
  | (p, L) :: r, n => match Nat.beq p n with
    | true => some L
    | false => anOf r n
def binA (op : BinOp) (t : TypeId) (a b : Value) : Sem Value := do eqGuard op t (.tmp 0) (.tmp 0) a b; binOp op t a b
def binE (op : BinOp) (t : TypeId) (x y : Operand) (a b : Value) : Sem Value := do eqGuard op t x y a b; binOp op t a b
def pickS (c a b : Value) : Sem Value := do pure (if ← asBool c then a else b)
def nilS (x : Value) : Sem Value :=
  match x with
  | .pointer none | .nilIface | .nilFunc => runtimePanic .nilDeref
  | .func (.method _) _ _ => stuck "a method value"
  | x => pure x
def lenS (t : TypeId) (ty : TypeId) (x : Value) : Sem Value := Builtin.len_ #[t] ty #[x]
def appS (t u : TypeId) (ty : TypeId) (x y : Value) : Sem Value := Builtin.append_ #[t, u] ty #[x, y]


/-! ### The same over a list of what was put, the last first (for the kernel) -/
abbrev AEnv := List (Nat × Value)
def aget : AEnv → Nat → Value
  | [], _ => undef
  | (d, v) :: A, t => match Nat.beq d t with
    | true => v
    | false => aget A t
def agetK {α : Sort _} : AEnv → Nat → (Value → α) → α
  | [], _, k => k undef
  | (d, v) :: A, t, k => match Nat.beq d t with
    | true => k v
    | false => agetK A t k
theorem agetK_eq {α : Sort _} : ∀ (A : AEnv) (t : Nat) (k : Value → α), agetK A t k = k (aget A t)
  | [], _, _ => rfl
  | (d, v) :: A, t, k => by
    simp only [agetK, aget]
    cases Nat.beq d t with
    | true => rfl
    | false => exact agetK_eq A t k
def aput (n : Nat) (A : AEnv) (dst : Option Tmp) (v : Value) : AEnv :=
  match dst with
  | some d => match Nat.blt d n with
    | true => (d, v) :: A
    | false => A
  | none => A
def aputK {α : Sort _} (n : Nat) (A : AEnv) (dst : Option Tmp) (v : Value) (k : AEnv → α) : α :=
  match dst with
  | some d => match Nat.blt d n with
    | true => k ((d, v) :: A)
    | false => k A
  | none => k A
theorem aputK_eq {α : Sort _} (n : Nat) (A : AEnv) (dst : Option Tmp) (v : Value) (k : AEnv → α) : aputK n A dst v k = k (aput n A dst v) := by
  cases dst with
  | none => rfl
  | some d => simp only [aputK, aput]; cases Nat.blt d n <;> rfl
def aev (A : AEnv) : Operand → Value
  | .tmp t => aget A t
  | .const v => v
  | .global g => .pointer (some ⟨g, 0, none⟩)
  | .func f => .func (.func f) #[] #[]
def aevK {α : Sort _} (A : AEnv) (x : Operand) (k : Value → α) : α :=
  match x with
  | .tmp t => agetK A t k
  | .const v => k v
  | .global g => k (.pointer (some ⟨g, 0, none⟩))
  | .func f => k (.func (.func f) #[] #[])
theorem aevK_eq {α : Sort _} (A : AEnv) (x : Operand) (k : Value → α) : aevK A x k = k (aev A x) := by
  cases x <;> first | rfl | exact agetK_eq _ _ _
def setBK {α : Sort _} : List Bool → Nat → (List Bool → α) → α
  | [], _, k => k []
  | _ :: bs, 0, k => k (true :: bs)
  | b :: bs, n + 1, k => setBK bs n fun l => k (b :: l)
theorem setBK_eq {α : Sort _} : ∀ (l : List Bool) (n : Nat) (k : List Bool → α), setBK l n k = k (setB l n)
  | [], _, _ => rfl
  | _ :: _, 0, _ => rfl
  | b :: bs, n + 1, k => by simp only [setBK, setB]; rw [setBK_eq bs n]
structure Rep (n : Nat) (A : AEnv) (e : Env) : Prop where
  len : e.length = n
  get : ∀ t, lget e t = aget A t
theorem Rep.ev {n : Nat} {A : AEnv} {e : Env} (h : Rep n A e) : Mx.ev e = aev A := by
  funext x
  cases x <;> simp only [Mx.ev, aev]
  exact h.get _
theorem Rep.put {n : Nat} {A : AEnv} {e : Env} (h : Rep n A e) (dst : Option Tmp) (v : Value) : Rep n (aput n A dst v) (Mx.put e dst v) := by
  cases dst with
  | none => exact h
  | some d =>
    simp only [aput, Mx.put]
    cases hb : Nat.blt d n with
    | true =>
      have hd : d < n := by simpa [Nat.blt_eq] using hb
      refine ⟨by rw [length_lset]; exact h.len, fun t => ?_⟩
      simp only [aget]
      cases hq : Nat.beq d t with
      | true =>
        have := Nat.eq_of_beq_eq_true hq
        subst this
        exact lget_lset_eq _ _ _ (by rw [h.len]; exact hd)
      | false =>
        have hne : d ≠ t := fun e => by subst e; simp at hq
        rw [lget_lset_ne _ _ _ _ hne]
        exact h.get t
    | false =>
      have hd : ¬ d < n := fun hlt => by rw [← Nat.blt_eq] at hlt; rw [hb] at hlt; cases hlt
      refine ⟨by rw [length_lset]; exact h.len, fun t => ?_⟩
      by_cases hne : d = t
      · subst hne
        rw [← h.get, lget_ge _ _ (by rw [length_lset, h.len]; exact Nat.le_of_not_lt hd), lget_ge _ _ (by rw [h.len]; exact Nat.le_of_not_lt hd)]
      · rw [lget_lset_ne _ _ _ _ hne]
        exact h.get t
def execA (P : Program) (A : AEnv) (op : Op) (ty : TypeId) (h : Heap) (K : Value → Heap → Prop) : Prop :=
  match moveOf op with
  | some x => aevK A x fun v => K v h
  | none => execM P (aev A) op ty h K
theorem execA_eq {P : Program} {A : AEnv} {op : Op} {ty : TypeId} {h : Heap} {K : Value → Heap → Prop} : execA P A op ty h K = execM P (aev A) op ty h K := by
  unfold execA
  cases hm : moveOf op with
  | some x => simp only [aevK_eq]; unfold execM; rw [hm]
  | none => rfl
def gvalA (ops : List Oper) (A : AEnv) (j : Nat) : Value :=
  match gtmp ops j with
  | some t => aget A t
  | none => undef
theorem Rep.gval {n : Nat} {A : AEnv} {e : Env} (h : Rep n A e) (ops : List Oper) (j : Nat) : Mx.gval ops e j = gvalA ops A j := by
  unfold Mx.gval gvalA
  cases gtmp ops j with
  | none => rfl
  | some t => exact h.get t
def stepA (P : Program) (ops : List Oper) (A : AEnv) (h : Heap) (o : Oper) (k : Value → Heap → Prop) : Prop :=
  match o.guard with
  | none => execA P A o.op o.type h k
  | some (j, want) => guardM (asG (gvalA ops A j) want) want (execA P A o.op o.type h) h k
theorem stepA_eq {P : Program} {ops : List Oper} {n : Nat} {A : AEnv} {e : Env} (hr : Rep n A e) {h : Heap} {o : Oper} {k : Value → Heap → Prop} : stepA P ops A h o k = stepV P ops e h o k := by
  have : execA P A o.op o.type h = execM P (ev e) o.op o.type h := funext fun _ => by rw [execA_eq, hr.ev]
  have h2 : execA P A o.op o.type h k = execM P (ev e) o.op o.type h k := by rw [this]
  unfold stepA stepV
  cases o.guard with
  | none => exact h2
  | some p =>
    obtain ⟨j, want⟩ := p
    simp only [this, hr.gval]
def YvA (P : Program) (ops : List Oper) (A : AEnv) (g : Heap) (o : Oper) (v : Value) : Prop :=
  match o.guard with
  | none => Yx P (aev A) o.op o.type g v
  | some (j, want) => ∃ b : Bool, asG (gvalA ops A j) want = .bool b ∧ (b = want → Yx P (aev A) o.op o.type g v) ∧ (b ≠ want → v = undef)
theorem YvA_eq {P : Program} {ops : List Oper} {n : Nat} {A : AEnv} {e : Env} (hr : Rep n A e) {g : Heap} {o : Oper} {v : Value} : YvA P ops A g o v = Yv P ops e g o v := by
  unfold YvA Yv
  cases o.guard with
  | none => simp only [hr.ev]
  | some p => obtain ⟨j, want⟩ := p; simp only [hr.ev, hr.gval]
def wpInA (P : Program) (n : Nat) (ops : List Oper) : List Oper → AEnv → Heap → (AEnv → Heap → Prop) → Prop
  | [], A, h, K => K A h
  | o :: os, A, h, K => stepA P ops A h o fun v h' => aputK n A o.dst v fun A' => wpInA P n ops os A' h' K
theorem wpInA_eq {P : Program} {n : Nat} {ops : List Oper} {K : AEnv → Heap → Prop} {K' : Env → Heap → Prop} (hK : ∀ A e h, Rep n A e → K A h = K' e h) : ∀ (l : List Oper) (A : AEnv) (e : Env) (h : Heap), Rep n A e → wpInA P n ops l A h K = wpIn P ops l e h K'
  | [], A, e, h, hr => hK A e h hr
  | o :: os, A, e, h, hr => by
    simp only [wpInA, wpIn, aputK_eq]
    rw [stepA_eq hr]
    congr 1
    funext v h'
    exact wpInA_eq hK os _ _ _ (hr.put o.dst v)
def wpDrawA (P : Program) (n : Nat) (ops : List Oper) (K : AEnv → Heap → Prop) : Nat → List Bool → AEnv → Heap → Held → Prop
  | 0, l, A, h, _ => match readyAll ops 0 l with
    | [] => K A h
    | _ :: _ => False
  | m + 1, l, A, h, S => match firstQuiet (readyAll ops 0 l) with
    | some (i, o) => setBK l i fun l' => match isP o.op with
      | true => stepA P ops A h o fun v h' => aputK n A o.dst v fun A' => wpDrawA P n ops K m l' A' h' S
      | false => stepA P ops A h o fun v h' => aputK n A o.dst v fun A' => wpDrawA P n ops K m l' A' h' ((i, fun g => YvA P ops A g o v) :: S)
    | none => match readyAll ops 0 l with
      | [] => K A h
      | r :: rs => allL (fun i o => setBK l i fun l' => stepA P ops A h o fun v h' => allS h' (aputK n A o.dst v fun A' => wpDrawA P n ops K m l' A' h' (keepH o S)) (keepH o S)) (r :: rs)
theorem wpDrawA_eq {P : Program} {n : Nat} {ops : List Oper} {K : AEnv → Heap → Prop} {K' : Env → Heap → Prop} (hK : ∀ A e h, Rep n A e → K A h = K' e h) : ∀ (m : Nat) (l : List Bool) (A : AEnv) (e : Env) (h : Heap) (S : Held), Rep n A e → wpDrawA P n ops K m l A h S = wpDraw P ops K' m l e h S
  | 0, l, A, e, h, S, hr => by
    simp only [wpDrawA, wpDraw]
    cases readyAll ops 0 l with
    | nil => exact hK A e h hr
    | cons x xs => rfl
  | m + 1, l, A, e, h, S, hr => by
    have ih := fun l A e h S hr => wpDrawA_eq (P := P) (n := n) (ops := ops) hK m l A e h S hr
    simp only [wpDrawA, wpDraw, aputK_eq, setBK_eq]
    cases firstQuiet (readyAll ops 0 l) with
    | some x =>
      obtain ⟨i, o⟩ := x
      simp only
      have hy : ∀ v, (fun g => YvA P ops A g o v) = fun g => Yv P ops e g o v := fun v => funext fun g => YvA_eq hr
      cases isP o.op with
      | true => simp only [stepA_eq hr]; congr 1; funext v h'; exact ih _ _ _ _ _ (hr.put o.dst v)
      | false => simp only [stepA_eq hr, hy]; congr 1; funext v h'; exact ih _ _ _ _ _ (hr.put o.dst v)
    | none =>
      simp only
      cases readyAll ops 0 l with
      | nil => exact hK A e h hr
      | cons x xs =>
        simp only
        congr 1
        funext i o
        rw [stepA_eq hr]
        congr 1
        funext v h'
        rw [ih _ _ _ _ _ (hr.put o.dst v)]
def regA (P : Program) (n : Nat) (ops : List Oper) (draw : Bool) (A : AEnv) (h : Heap) (K : AEnv → Heap → Prop) : Prop :=
  match draw with
  | false => wpInA P n ops ops A h K
  | true => match pairsFrom ops ops 0 with
    | true => wpDrawA P n ops K (len ops) (falses ops) A h []
    | false => False
theorem regA_eq {P : Program} {n : Nat} {ops : List Oper} {K : AEnv → Heap → Prop} {K' : Env → Heap → Prop} (hK : ∀ A e h, Rep n A e → K A h = K' e h) {draw : Bool} {A : AEnv} {e : Env} {h : Heap} (hr : Rep n A e) : regA P n ops draw A h K = regM P ops draw e h K' := by
  unfold regA regM
  cases draw with
  | false => exact wpInA_eq hK _ _ _ _ hr
  | true => simp only; rw [wpDrawA_eq hK _ _ _ _ _ _ hr]
def agetMany (A : AEnv) : List Nat → List Value
  | [] => []
  | t :: ts => aget A t :: agetMany A ts
def ajunkK {α : Sort _} (n : Nat) (j : Nat → Value) : List Nat → AEnv → (AEnv → α) → α
  | [], A, k => k A
  | t :: ts, A, k => aputK n A (some t) (j t) fun A' => ajunkK n j ts A' k
def asetK {α : Sort _} (n : Nat) : List Nat → List Value → AEnv → (AEnv → α) → α
  | [], _, A, k => k A
  | _ :: _, [], A, k => k A
  | t :: ts, v :: vs, A, k => aputK n A (some t) v fun A' => asetK n ts vs A' k
theorem Rep.many {n : Nat} {A : AEnv} {e : Env} (h : Rep n A e) : ∀ L : List Nat, getMany e L = agetMany A L
  | [] => rfl
  | t :: ts => by simp only [getMany, agetMany, h.get, h.many ts]
theorem ajunkK_eq {α : Sort _} {n : Nat} {j : Nat → Value} {k : AEnv → α} {k' : Env → α} (hk : ∀ A e, Rep n A e → k A = k' e) : ∀ (L : List Nat) (A : AEnv) (e : Env), Rep n A e → ajunkK n j L A k = k' (junkMany e j L)
  | [], A, e, hr => hk A e hr
  | t :: ts, A, e, hr => by
    simp only [ajunkK, junkMany, aputK_eq]
    exact ajunkK_eq hk ts _ _ (hr.put (some t) (j t))
theorem asetK_eq {α : Sort _} {n : Nat} {k : AEnv → α} {k' : Env → α} (hk : ∀ A e, Rep n A e → k A = k' e) : ∀ (L : List Nat) (vs : List Value) (A : AEnv) (e : Env), Rep n A e → asetK n L vs A k = k' (setMany e L vs)
  | [], _, A, e, hr => by simp only [asetK, setMany]; exact hk A e hr
  | _ :: _, [], A, e, hr => by simp only [asetK, setMany]; exact hk A e hr
  | t :: ts, v :: vs, A, e, hr => by
    simp only [asetK, setMany, aputK_eq]
    exact asetK_eq hk ts vs _ _ (hr.put (some t) v)
theorem forallN_congr {f g : List Value → Prop} (h : ∀ vs, f vs = g vs) (n : Nat) : forallN n f = forallN n g := by rw [funext h]
def wpA (P : Program) (n : Nat) (an : Nat → Option (List Nat)) : Code → Nat → (AEnv → Heap → Prop) → (Nat → AEnv → Heap → Prop) → (AEnv → Heap → Prop) → AEnv → Heap → Prop
  | .skip, _, kn, _, _, A, h => kn A h
  | .region _ ops draw, _, kn, _, _, A, h => regA P n ops.toList draw A h kn
  | .seq a b, p, kn, kx, kr, A, h => match an p with
    | none => wpA P n an a (2 * p) (fun A' h' => wpA P n an b (2 * p + 1) kn kx kr A' h') kx kr A h
    | some L => ∃ J : List Value → Heap → Prop, wpA P n an a (2 * p) (fun A' h' => J (agetMany A' L) h') kx kr A h ∧
        ∀ (junk : Nat → Value), forallN (lenN L) fun vs => ∀ h' : Heap, J vs h' → ajunkK n junk (writes a) A fun A1 => asetK n L vs A1 fun A2 => wpA P n an b (2 * p + 1) kn kx kr A2 h'
  | .cond c a b, p, kn, kx, kr, A, h => condM (aev A c) (wpA P n an a (2 * p) kn kx kr A h) (wpA P n an b (2 * p + 1) kn kx kr A h)
  | .block id c, p, kn, kx, kr, A, h => wpA P n an c (2 * p) kn (fun i A' h' => match Nat.beq i id with
    | true => kn A' h'
    | false => kx i A' h') kr A h
  | .loop c, p, _, kx, kr, A, h => match an p with
    | none => False
    | some L => ∃ (I : List Value → Heap → Prop) (μ : List Value → Heap → Nat), I (agetMany A L) h ∧
        ∀ (junk : Nat → Value), forallN (lenN L) fun vs => ∀ h' : Heap, I vs h' → ajunkK n junk (writes c) A fun A1 => asetK n L vs A1 fun A2 =>
          wpA P n an c (2 * p) (fun A'' h'' => I (agetMany A'' L) h'' ∧ μ (agetMany A'' L) h'' < μ vs h') kx kr A2 h'
  | .exit id, _, _, kx, _, A, h => kx id A h
  | .ret, _, _, _, kr, A, h => kr A h
  | .label _, _, kn, _, _, A, h => kn A h
  | _, _, _, _, _, _, _ => False
theorem wpA_eq {P : Program} {n : Nat} {an : Nat → Option (List Nat)} : ∀ (c : Code) (p : Nat) (kn : AEnv → Heap → Prop) (kx : Nat → AEnv → Heap → Prop) (kr : AEnv → Heap → Prop) (kn' : Env → Heap → Prop) (kx' : Nat → Env → Heap → Prop) (kr' : Env → Heap → Prop) (A : AEnv) (e : Env) (h : Heap),
    Rep n A e → (∀ A e h, Rep n A e → kn A h = kn' e h) → (∀ i A e h, Rep n A e → kx i A h = kx' i e h) → (∀ A e h, Rep n A e → kr A h = kr' e h) → wpA P n an c p kn kx kr A h = wpC P an c p kn' kx' kr' e h := by
  intro c
  induction c with
  | skip => intro p kn kx kr kn' kx' kr' A e h hr h1 h2 h3; exact h1 A e h hr
  | region id ops draw => intro p kn kx kr kn' kx' kr' A e h hr h1 h2 h3; exact regA_eq h1 hr
  | seq a b iha ihb =>
    intro p kn kx kr kn' kx' kr' A e h hr h1 h2 h3
    simp only [wpA, wpC]
    cases an p with
    | none => exact iha _ _ _ _ _ _ _ _ _ _ hr (fun A e h hr => ihb _ _ _ _ _ _ _ _ _ _ hr h1 h2 h3) h2 h3
    | some L =>
      simp only
      congr 1
      funext J
      rw [iha (2 * p) (fun A' h' => J (agetMany A' L) h') kx kr (fun e' h' => J (getMany e' L) h') kx' kr' A e h hr (fun A e h hr => by rw [hr.many]) h2 h3]
      congr 1
      refine propext (forall_congr' fun junk => ?_)
      rw [forallN_congr]
      intro vs
      refine propext (forall_congr' fun h' => ?_)
      rw [ajunkK_eq (fun A1 e1 hr1 => asetK_eq (fun A2 e2 hr2 => ihb _ _ _ _ _ _ _ _ _ _ hr2 h1 h2 h3) L vs A1 e1 hr1) _ _ _ hr]
  | cond c a b iha ihb =>
    intro p kn kx kr kn' kx' kr' A e h hr h1 h2 h3
    simp only [wpA, wpC]
    rw [iha _ _ _ _ _ _ _ _ _ _ hr h1 h2 h3, ihb _ _ _ _ _ _ _ _ _ _ hr h1 h2 h3, hr.ev]
  | block id c ih =>
    intro p kn kx kr kn' kx' kr' A e h hr h1 h2 h3
    simp only [wpA, wpC]
    refine ih _ _ _ _ _ _ _ _ _ _ hr h1 (fun i A e h hr => ?_) h3
    cases Nat.beq i id with
    | true => exact h1 A e h hr
    | false => exact h2 i A e h hr
  | loop c ih =>
    intro p kn kx kr kn' kx' kr' A e h hr h1 h2 h3
    simp only [wpA, wpC]
    cases an p with
    | none => rfl
    | some L =>
      simp only
      congr 1
      funext I
      congr 1
      funext μ
      rw [hr.many]
      congr 1
      refine propext (forall_congr' fun junk => ?_)
      rw [forallN_congr]
      intro vs
      refine propext (forall_congr' fun h' => ?_)
      rw [ajunkK_eq (fun A1 e1 hr1 => asetK_eq (fun A2 e2 hr2 => ih (2 * p) _ kx kr (fun e'' h'' => I (getMany e'' L) h'' ∧ μ (getMany e'' L) h'' < μ vs h') kx' kr' A2 e2 h' hr2 (fun A e h hr => by rw [hr.many]) h2 h3) L vs A1 e1 hr1) _ _ _ hr]
  | exit id => intro p kn kx kr kn' kx' kr' A e h hr h1 h2 h3; exact h2 id A e h hr
  | ret => intro p kn kx kr kn' kx' kr' A e h hr h1 h2 h3; exact h3 A e h hr
  | label l => intro p kn kx kr kn' kx' kr' A e h hr h1 h2 h3; exact h1 A e h hr
  | _ => intros; rfl
/-- The arguments' list. -/
def aargs : List Value → Nat → AEnv
  | [], _ => []
  | v :: vs, i => (i, v) :: aargs vs (i + 1)
theorem aget_aargs : ∀ (vs : List Value) (i t : Nat), aget (aargs vs i) t = if t < i then undef else lget vs (t - i)
  | [], i, t => by simp [aargs, aget, lget]
  | v :: vs, i, t => by
    simp only [aargs, aget]
    cases hq : Nat.beq i t with
    | true => have := Nat.eq_of_beq_eq_true hq; subst this; simp [lget]
    | false =>
      have hne : i ≠ t := fun e => by subst e; simp at hq
      simp only [aget_aargs vs (i + 1) t]
      by_cases h : t < i
      · simp [h, show t < i + 1 by omega]
      · simp only [h, show ¬ t < i + 1 by omega, if_false]
        rw [show t - i = (t - (i + 1)) + 1 by omega]
        rfl
theorem rep_args (vs : List Value) (m n : Nat) (hn : vs.length + m = n) : Rep n (aargs vs 0) (vs ++ undefs m) := by
  have hu : ∀ m, (undefs m).length = m ∧ ∀ t, lget (undefs m) t = undef := by
    intro m
    induction m with
    | zero => exact ⟨rfl, fun t => rfl⟩
    | succ m ih => refine ⟨by simp [undefs, ih.1], fun t => ?_⟩; cases t <;> simp [undefs, lget, ih.2]
  refine ⟨by simp [(hu m).1, hn], fun t => ?_⟩
  rw [aget_aargs]
  simp only [Nat.not_lt_zero, if_false, Nat.sub_zero]
  have key : ∀ (l : List Value) (t : Nat), lget (l ++ undefs m) t = lget l t := by
    intro l
    induction l with
    | nil => intro t; simp [(hu m).2, lget]
    | cons x xs ih => intro t; cases t <;> simp [lget, ih]
  exact key vs t
def resA (P : Program) (A : AEnv) (h : Heap) (K : Value → Heap → Prop) (rs : List ResultVar) : Prop := resM P (aget A) h K rs []
theorem callM_of_wpA {P : Program} (hm : P.follows .mixedOrders = true) {f : FuncId} {fn : Func} {c : Code} (hf : P.funcs[f]? = some fn) (hb : fn.body = some c) (hn : (fn.name == "runtime.NumGoroutine") = false)
    (an : Nat → Option (List Nat)) {args : List Value} {h : Heap} {K : Value → Heap → Prop} (m n : Nat) (hk : fn.ntmps - args.length = m) (hnm : args.length + m = n) (rs : List ResultVar) (hr : fn.results.toList = rs)
    (H : wpA P n an c 1 (fun A h => resA P A h K rs) (fun _ _ _ => False) (fun A h => resA P A h K rs) (aargs args 0) h) : callM P f args.toArray h K := by
  refine callM_of_wpC hm hf hb hn an m hk rs hr ?_
  have hg : ∀ (A : AEnv) (e : Env) (h : Heap), Rep n A e → resA P A h K rs = retM P rs e h K := fun A e h hr => by
    unfold resA retM
    rw [show aget A = lget e from funext fun t => (hr.get t).symm]
  rw [← wpA_eq c 1 _ (fun _ _ _ => False) _ _ (fun _ _ _ => False) _ _ _ h (rep_args args m n hnm) hg (fun _ _ _ _ _ => rfl) hg]
  exact H
end Go.Mx
