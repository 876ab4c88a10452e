/- The table as it lies in memory: a block with four cells, a map's block, a chain of blocks; what a step leaves as it was. -/
import Derived.Test.YthanhccpmonemaaGreatDoorMaps
namespace Go.Proofs.YthanhccpmonemaaGreatDoor
open Go.RowKit

/-! ### entries -/
structure Ent where
  b : Nat
  key : ByteArray
  kd : Int
  n : Nat
  s : ByteArray
  t : Int

def ptr (o : Option Nat) : Value := .pointer (o.map fun b => ⟨b, 0, none⟩)
@[simp] theorem ptr_none : ptr none = .pointer none := rfl
@[simp] theorem ptr_some (b : Nat) : ptr (some b) = .pointer (some ⟨b, 0, none⟩) := rfl
def nextB (nx : Option Nat) : List Ent → Option Nat
  | [] => nx
  | e :: _ => some e.b
def lastB (p : Option Nat) : List Ent → Option Nat
  | [] => p
  | e :: es => lastB (some e.b) es
def Ent.cells (e : Ent) (prev next : Option Nat) : Array Value :=
  #[.string e.key, .int .i64 e.kd, .float .f64 e.n, .string e.s, .int .u64 e.t, ptr prev, ptr next]
/-- From 'prev' (ahead of the first) to 'nx' (behind the last). -/
def Chain (w : World) (nx : Option Nat) : Option Nat → List Ent → Prop
  | _, [] => True
  | prev, e :: es => w.heap[e.b]? = some (.cells (e.cells prev (nextB nx es)) 64 (0, 0)) ∧ Chain w nx (some e.b) es

def efind (s : ByteArray) (es : List Ent) : Option Ent := es.find? fun e => s == e.key

theorem nextB_append (nx : Option Nat) (p q : List Ent) : nextB nx (p ++ q) = nextB (nextB nx q) p := by
  cases p <;> rfl
theorem lastB_append : ∀ (prev : Option Nat) (p q : List Ent), lastB prev (p ++ q) = lastB (lastB prev p) q
  | _, [], _ => rfl
  | _, e :: p, q => lastB_append (some e.b) p q
theorem Chain_append (w : World) (nx : Option Nat) : ∀ (prev : Option Nat) (p q : List Ent), Chain w nx prev (p ++ q) ↔ Chain w (nextB nx q) prev p ∧ Chain w nx (lastB prev p) q
  | prev, [], q => by simp [Chain, lastB]
  | prev, e :: p, q => by
    simp only [List.cons_append, Chain, lastB, nextB_append, Chain_append w nx (some e.b) p q, and_assoc]
theorem Chain.keep {w w' : World} {nx : Option Nat} : ∀ {prev : Option Nat} {es : List Ent}, Chain w nx prev es → (∀ e ∈ es, w'.heap[e.b]? = w.heap[e.b]?) → Chain w' nx prev es
  | _, [], _, _ => trivial
  | _, e :: es, h, hk => ⟨by rw [hk e (.head _)]; exact h.1, h.2.keep fun x hx => hk x (.tail _ hx)⟩

/-- The table at block t: its time to live, its entries in order. -/
structure TRep (w : World) (t m : Nat) (ttl : Int) (es : List Ent) (l : List SE) (clock : Nat) : Prop where
  tab : w.heap[t]? = some (.cells #[.int .u64 ttl, .map (some m), ptr (nextB none es), ptr (lastB none es)] 44 (0, 0))
  map : w.heap[m]? = some (.map (sents l) clock)
  chain : Chain w none none es
  nodup : (t :: m :: es.map (·.b)).Nodup
  keys : (es.map (·.key)).Nodup
  lkeys : (skeys l).Nodup
  llen : l.length = es.length
  lval : ∀ s, sval s l = (efind s es).map fun e => ptr (some e.b)

/-- What one sees of an entry. -/
structure KV where
  key : ByteArray
  kd : Int
  n : Nat
  s : ByteArray
  t : Int

def Ent.vis (e : Ent) : KV := ⟨e.key, e.kd, e.n, e.s, e.t⟩

/-- A table at block t that stands over the blocks fp and holds vs. -/
def Tab (w : World) (t : Nat) (fp : List Nat) (ttl : Int) (vs : List KV) : Prop :=
  ∃ m es l clock, TRep w t m ttl es l clock ∧ fp = t :: m :: es.map (·.b) ∧ vs = es.map Ent.vis

theorem TRep.keep {w w' : World} {t m : Nat} {ttl : Int} {es : List Ent} {l : List SE} {clock : Nat} (h : TRep w t m ttl es l clock) (hk : ∀ b ∈ t :: m :: es.map (·.b), w'.heap[b]? = w.heap[b]?) : TRep w' t m ttl es l clock :=
  ⟨by rw [hk t (by simp)]; exact h.tab, by rw [hk m (by simp)]; exact h.map, h.chain.keep fun e he => hk e.b (by simp; exact .inr (.inr ⟨e, he, rfl⟩)), h.nodup, h.keys, h.lkeys, h.llen, h.lval⟩
theorem Chain.lt {w : World} {nx : Option Nat} : ∀ {prev : Option Nat} {es : List Ent}, Chain w nx prev es → ∀ e ∈ es, e.b < w.heap.size
  | _, _ :: _, h, _, .head _ => h_lt h.1
  | _, _ :: _, h, x, .tail _ hx => h.2.lt x hx
theorem TRep.lt {w : World} {t m : Nat} {ttl : Int} {es : List Ent} {l : List SE} {clock : Nat} (h : TRep w t m ttl es l clock) : ∀ b ∈ t :: m :: es.map (·.b), b < w.heap.size := by
  intro b hb
  simp only [List.mem_cons, List.mem_map] at hb
  rcases hb with rfl | rfl | ⟨e, he, rfl⟩
  · exact h_lt h.tab
  · exact h_lt h.map
  · exact h.chain.lt e he
theorem Tab.lt {w : World} {t : Nat} {fp : List Nat} {ttl : Int} {vs : List KV} (h : Tab w t fp ttl vs) : ∀ b ∈ fp, b < w.heap.size := by
  obtain ⟨m, es, l, clock, hr, rfl, rfl⟩ := h
  exact hr.lt
theorem Tab.keep {w w' : World} {t : Nat} {fp fp' : List Nat} {ttl : Int} {vs : List KV} (h : Tab w t fp ttl vs) (hk : Keeps fp' w w') (hd : ∀ b ∈ fp, b ∉ fp') : Tab w' t fp ttl vs := by
  have hlt := h.lt
  obtain ⟨m, es, l, clock, hr, rfl, rfl⟩ := h
  exact ⟨m, es, l, clock, hr.keep fun b hb => hk.block b (hlt b hb) (hd b hb), rfl, rfl⟩

theorem cell_of_heap {w : World} {b : Nat} {c : Array Value} {T : TypeId} {f : Nat × Nat} (h : w.heap[b]? = some (.cells c T f)) (o : Nat) : w.cell? ⟨b, o, none⟩ = c[o]? := by
  simp [World.cell?, h]
theorem frozen_of_heap {w : World} {b : Nat} {c : Array Value} {T : TypeId} (h : w.heap[b]? = some (.cells c T (0, 0))) (o : Nat) : w.frozen? ⟨b, o, none⟩ = false := by
  simp [World.frozen?, h]
end Go.Proofs.YthanhccpmonemaaGreatDoor
