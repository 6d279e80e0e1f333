/- What stands behind a line's repository, each kind's way in one form. Printed by gen_scrrest.py. -/
import Derived.Test.YtjjaojnglnpgaaaGreatDoorProg
import Derived.Deep.Cut
import Derived.Deep.MidRow
import Derived.Defers
import Derived.Recover
import Derived.Laws.EntriesVeiled
import Derived.ChangeMaps5
import Derived.Maps.RangeWalk
import Derived.Maps.OwnSet
import Derived.Lib.SplitLaws
import Derived.Test.YtjjaojnglnpgaaaGreatDoorLLine
import Derived.Test.YtjjaojnglnpgaaaGreatDoorLKeep
import Derived.Test.YtjjaojnglnpgaaaGreatDoorLTabs
import Derived.Test.YtjjaojnglnpgaaaGreatDoorLBase
import Derived.Test.YtjjaojnglnpgaaaGreatDoorLCmd

set_option linter.unusedVariables false
set_option linter.unusedSimpArgs false

namespace Go.Proofs.YtjjaojnglnpgaaaGreatDoor
open Go.RowKit

def Ph.zero : Ph := ⟨⟨none, 0, none, 0⟩, ⟨none, 0, none, 0, none, 0⟩⟩
/-- a command's twenty cells -/
abbrev cmdVs (c : Cmd) (x : Ph) (A : Option Addr) (n : Nat) : List Value := [.int .u8 c.kind, .string c.repo, .string c.frm, .string c.name, .string c.file, .int .u8 c.patch.kind, .string c.patch.file, .string c.patch.text, .int .i64 c.patch.hunk.at_, .slice x.h.oA c.patch.hunk.old.length x.h.oc, .slice x.h.nA c.patch.hunk.new.length x.h.nc, .int .u8 c.patch.edit.kind, .slice x.e.pA c.patch.edit.path.length x.e.pc, .int .i64 c.patch.edit.at_, .int .i64 c.patch.edit.far, .string c.patch.edit.frm, .string c.patch.edit.to, .slice x.e.oA c.patch.edit.old.len x.e.oc, .slice x.e.nA c.patch.edit.new.len x.e.nc, .slice A c.bytes.length n]
/-- a command's rows, read -/
structure CmdIn (S : Nat → Prop) (w : World) (c : Cmd) (x : Ph) (A : Option Addr) (n : Nat) : Prop where
  kind : c.kind < 256
  repo : c.repo.size ≤ 9223372036854775807
  frm : c.frm.size ≤ 9223372036854775807
  name : c.name.size ≤ 9223372036854775807
  file : c.file.size ≤ 9223372036854775807
  patch : PtIn S w x c.patch
  bytes : BytesIn S w A c.bytes
  cap : c.bytes.length ≤ n ∧ n ≤ 9223372036854775807
/-- a command whose rows are its own: the blocks L -/
def CmdO (w : World) (c : Cmd) (x : Ph) (A : Option Addr) (n : Nat) (L : List Nat) : Prop :=
  ∃ L1 L2, PtO w x c.patch L1 ∧ RowO 5 w A n c.bytes.length (Lib.byteCells c.bytes) L2 ∧ L = L1 ++ L2
/-- a command of its own, all of whose rows lie from block M on -/
def CmdAt (M : Nat) (w : World) (c : Cmd) (x : Ph) (A : Option Addr) (n : Nat) : Prop := CmdIn (fun b => M ≤ b) w c x A n ∧ ∃ L, CmdO w c x A n L ∧ L.Nodup ∧ ∀ b ∈ L, M ≤ b
section
variable {S S' : Nat → Prop} {w w' : World} {c : Cmd} {x : Ph} {A : Option Addr} {n M : Nat} {L : List Nat}
theorem CmdIn.keep (h : CmdIn S w c x A n) (hk : ∀ b, S b → w'.heap[b]? = w.heap[b]?) : CmdIn S w' c x A n := ⟨h.kind, h.repo, h.frm, h.name, h.file, h.patch.keep hk, h.bytes.keep hk, h.cap⟩
theorem CmdIn.mono (h : CmdIn S w c x A n) (hm : ∀ b, b < w.heap.size → S b → S' b) : CmdIn S' w c x A n := ⟨h.kind, h.repo, h.frm, h.name, h.file, h.patch.mono hm, h.bytes.mono hm, h.cap⟩
theorem CmdIn.below (h : CmdIn S w c x A n) (hb : Below w.heap.size w w') : CmdIn S w' c x A n := ⟨h.kind, h.repo, h.frm, h.name, h.file, h.patch.below hb, h.bytes.below hb, h.cap⟩
theorem CmdO.keep (h : CmdO w c x A n L) (hk : ∀ b ∈ L, w'.heap[b]? = w.heap[b]?) : CmdO w' c x A n L := by
  obtain ⟨L1, L2, h1, h2, rfl⟩ := h
  exact ⟨L1, L2, h1.keep fun b hb => hk b (by simp [hb]), h2.keep fun b hb => hk b (by simp [hb]), rfl⟩
theorem CmdO.lt (h : CmdO w c x A n L) : ∀ b ∈ L, b < w.heap.size := by
  obtain ⟨L1, L2, h1, h2, rfl⟩ := h
  intro b hb
  rcases List.mem_append.1 hb with hb | hb
  · exact h1.lt b hb
  · exact h2.lt b hb
theorem CmdAt.keep (h : CmdAt M w c x A n) (hk : ∀ b, M ≤ b → w'.heap[b]? = w.heap[b]?) : CmdAt M w' c x A n := by
  obtain ⟨h1, L, h2, h3, h4⟩ := h
  exact ⟨h1.keep hk, L, h2.keep fun b hb => hk b (h4 b hb), h3, h4⟩
theorem CmdAt.below (h : CmdAt M w c x A n) (hb : Below w.heap.size w w') : CmdAt M w' c x A n := by
  obtain ⟨h1, L, h2, h3, h4⟩ := h
  exact ⟨h1.below hb, L, h2.keep fun b hb' => hb.block b (h2.lt b hb'), h3, h4⟩
theorem CmdAt.mono {M' : Nat} (h : CmdAt M w c x A n) (hm : M' ≤ M) : CmdAt M' w c x A n := by
  obtain ⟨h1, L, h2, h3, h4⟩ := h
  exact ⟨h1.mono fun b _ hb => Nat.le_trans hm hb, L, h2, h3, fun b hb => Nat.le_trans hm (h4 b hb)⟩
theorem CmdAt.setLow (h : CmdAt M w c x A n) {a : Addr} (ha : a.block < M) (u : Value) : CmdAt M (w.setCell a u) c x A n :=
  h.keep fun b hb => Below.heap_setCell w a u b (by omega)
theorem ptZero_inR : PtIn S w Ph.zero Pt.zero := by
  refine ⟨by decide, by decide, by decide, ⟨⟨by decide, by decide⟩, ⟨.nil, (fun _ h => by cases h), by decide⟩, ⟨.nil, (fun _ h => by cases h), by decide⟩, ⟨Nat.le_refl _, by decide⟩, ⟨Nat.le_refl _, by decide⟩⟩,
    ⟨by decide, ⟨.nil, (fun _ h => by cases h), by decide⟩, ⟨by decide, by decide⟩, ⟨by decide, by decide⟩, by decide, by decide, ?_, ?_, ⟨Nat.le_refl _, by decide⟩, ⟨Nat.le_refl _, by decide⟩, ⟨Nat.le_refl _, by decide⟩⟩⟩
  all_goals trivial
theorem noTxt63 : noTxt.size ≤ 9223372036854775807 := by decide
theorem noTxt40 : noTxt.size ≤ 1099511627776 := by decide
theorem cmdAt_words {k : Nat} {s f m i : ByteArray} (hk : k < 256) (hs : s.size ≤ 1099511627776) (hf : f.size ≤ 1099511627776) (hm : m.size ≤ 1099511627776) (hi : i.size ≤ 1099511627776) :
    CmdAt M w ⟨k, s, f, m, i, Pt.zero, []⟩ Ph.zero none 0 :=
  ⟨⟨hk, Nat.le_trans hs (by decide), Nat.le_trans hf (by decide), Nat.le_trans hm (by decide), Nat.le_trans hi (by decide), ptZero_inR, ⟨.nil, Nat.zero_le _⟩, Nat.le_refl _, Nat.zero_le _⟩,
    [], ⟨[], [], PtO.bare, RowO.zero, rfl⟩, List.nodup_nil, fun b hb => by cases hb⟩
end

theorem own_zero {w : World} {B e size n : Nat} {v : Value} {xs : List Value} (h : w.ownsRow B e size v n xs) : w.ownsRow 0 e size v n xs :=
  ⟨h.1, h.2.imp id fun ⟨g, cap, cur, e1, _, rest⟩ => ⟨g, cap, cur, e1, Nat.zero_le _, rest⟩⟩
theorem own_from {w : World} {B e size n : Nat} {v : Value} {xs : List Value} (h : w.ownsRow B e size v n xs) : ∀ g ∈ ob v, B ≤ g := fun g hg => (h.lt g (mem_ob.1 hg)).1

/-- the tables lie in an older world, which the block N is no part of -/
def TabFar (N : Nat) (w : World) : Prop := ∃ W0, TabOk W0 ∧ Below W0.heap.size W0 w ∧ W0.heap.size ≤ N
theorem TabFar.tab {N : Nat} {w : World} (h : TabFar N w) : TabOk w := by
  obtain ⟨W0, h1, h2, _⟩ := h
  exact h1.below h2
theorem TabFar.side {N : Nat} {w w' : World} (h : TabFar N w) (hs : SideN N w w') : TabFar N w' := by
  obtain ⟨W0, h1, h2, h3⟩ := h
  have hz := h2.size
  exact ⟨W0, h1, h2.trans (Keep.below (hs.mono fun k hk => ⟨by omega, by omega⟩)), h3⟩

/-- what a way answers -/
def RestPost (D : Nat → Prop) (N : Nat) (w : World) (o : Option (Cmd × List ByteArray)) (e : Ending) (w' : World) : Prop :=
  SideN N w w' ∧ (o = none → e = nones) ∧ ∀ c r, o = some (c, r) → e = .returned (.tuple #[]) ∧ ∃ x A n, LnIn D N w' r (cmdVs c x A n) ∧ CmdAt w.heap.size w' c x A n
/-- the way of the function fn is rf -/
def RestOk (fn : FuncId) (rf : RestF) : Prop := ∀ {D : Nat → Prop} {N : Nat} {w : World} {l : List ByteArray} {k : Nat} {s : ByteArray}, k < 256 → s.size ≤ 1099511627776 → LnIn D N w l (cmdVs ⟨k, s, noTxt, noTxt, noTxt, Pt.zero, []⟩ Ph.zero none 0) → TabFar N w →
  (∀ s ∈ l, s.size ≤ 1099511627776) → Calls Tryz.prog fn #[.pointer (some ⟨N, 0, none⟩)] w (RestPost D N w (rf ⟨k, s, noTxt, noTxt, noTxt, Pt.zero, []⟩ l))

theorem restAlone_ok : RestOk 105 restAlone := by
  intro D N w l k s hk hs h ht hl
  refine (alone_any N w).mono ?_
  rintro e w' ⟨rfl, rfl⟩
  refine ⟨Keep.refl _ _, fun e => (by cases e), fun c r e => ?_⟩
  simp only [restAlone, Option.some.injEq, Prod.mk.injEq] at e
  obtain ⟨rfl, rfl⟩ := e
  exact ⟨rfl, _, _, _, h, cmdAt_words hk hs noTxt40 noTxt40 noTxt40⟩
theorem restUnpull_ok : RestOk 108 restUnpull := by
  intro D N w l k s hk hs h ht hl
  rcases l with _ | ⟨n, r⟩
  · refine (unpull_no h (fun _ _ e => by cases e)).mono ?_
    rintro e w' ⟨rfl, h2⟩
    exact ⟨h2, fun _ => rfl, fun c r e => by cases e⟩
  · have hn : n.size ≤ 1099511627776 := hl n List.mem_cons_self
    rcases hw : isWord n with _ | _
    · refine (unpull_no h (fun s r e => by cases e; exact hw)).mono ?_
      rintro e w' ⟨rfl, h2⟩
      exact ⟨h2, fun _ => rfl, fun c r e => by simp [restUnpull, hw] at e⟩
    · refine (unpull_yes h hw).mono ?_
      rintro e w' ⟨rfl, h2, h3⟩
      refine ⟨h3, fun e => by simp [restUnpull, hw] at e, fun c r' e => ?_⟩
      simp only [restUnpull, hw, if_true, Option.some.injEq, Prod.mk.injEq] at e
      obtain ⟨rfl, rfl⟩ := e
      exact ⟨rfl, _, _, _, h2, cmdAt_words hk hs noTxt40 hn noTxt40⟩
theorem restMerge_ok : RestOk 109 restMerge := by
  intro D N w l k s hk hs h ht hl
  rcases l with _ | ⟨n, r⟩
  · refine (merge_no h (fun _ _ e => by cases e)).mono ?_
    rintro e w' ⟨rfl, h2⟩
    exact ⟨h2, fun _ => rfl, fun c r e => by cases e⟩
  · have hn : n.size ≤ 1099511627776 := hl n List.mem_cons_self
    rcases hw : isWord n with _ | _
    · refine (merge_no h (fun s r e => by cases e; exact hw)).mono ?_
      rintro e w' ⟨rfl, h2⟩
      exact ⟨h2, fun _ => rfl, fun c r e => by simp [restMerge, hw] at e⟩
    · refine (merge_yes h hw).mono ?_
      rintro e w' ⟨rfl, h2, h3⟩
      refine ⟨h3, fun e => by simp [restMerge, hw] at e, fun c r' e => ?_⟩
      simp only [restMerge, hw, if_true, Option.some.injEq, Prod.mk.injEq] at e
      obtain ⟨rfl, rfl⟩ := e
      exact ⟨rfl, _, _, _, h2, cmdAt_words hk hs hn noTxt40 noTxt40⟩
theorem restCheckout_ok : RestOk 110 restCheckout := by
  intro D N w l k s hk hs h ht hl
  rcases l with _ | ⟨n, r⟩
  · refine (checkout_no h (fun _ _ e => by cases e)).mono ?_
    rintro e w' ⟨rfl, h2⟩
    exact ⟨h2, fun _ => rfl, fun c r e => by cases e⟩
  · have hn : n.size ≤ 1099511627776 := hl n List.mem_cons_self
    rcases hw : isWord n with _ | _
    · refine (checkout_no h (fun s r e => by cases e; exact hw)).mono ?_
      rintro e w' ⟨rfl, h2⟩
      exact ⟨h2, fun _ => rfl, fun c r e => by simp [restCheckout, hw] at e⟩
    · refine (checkout_yes h hw).mono ?_
      rintro e w' ⟨rfl, h2, h3⟩
      refine ⟨h3, fun e => by simp [restCheckout, hw] at e, fun c r' e => ?_⟩
      simp only [restCheckout, hw, if_true, Option.some.injEq, Prod.mk.injEq] at e
      obtain ⟨rfl, rfl⟩ := e
      exact ⟨rfl, _, _, _, h2, cmdAt_words hk hs noTxt40 noTxt40 hn⟩

theorem restPull_ok : RestOk 107 restPull := by
  intro D N w l k s hk hs h ht hl
  have stop1 : (∀ s r, l = s :: r → isWord s = false) → restPull ⟨k, s, noTxt, noTxt, noTxt, Pt.zero, []⟩ l = none → Calls Tryz.prog 107 #[.pointer (some ⟨N, 0, none⟩)] w (RestPost D N w (restPull ⟨k, s, noTxt, noTxt, noTxt, Pt.zero, []⟩ l)) := fun h1 h2 => by
    refine (pull_no1 h h1).mono ?_
    rintro e w' ⟨rfl, h3⟩
    exact ⟨h3, fun _ => rfl, fun c r e => by rw [h2] at e; cases e⟩
  rcases l with _ | ⟨f, r⟩
  · exact stop1 (fun _ _ e => by cases e) rfl
  · rcases hw : isWord f with _ | _
    · exact stop1 (fun s r e => by cases e; exact hw) (by rcases r with _ | ⟨n, r⟩ <;> simp [restPull, hw])
    · have stop2 : (∀ s r', r = s :: r' → isWord s = false) → restPull ⟨k, s, noTxt, noTxt, noTxt, Pt.zero, []⟩ (f :: r) = none → Calls Tryz.prog 107 #[.pointer (some ⟨N, 0, none⟩)] w (RestPost D N w (restPull ⟨k, s, noTxt, noTxt, noTxt, Pt.zero, []⟩ (f :: r))) := fun h1 h2 => by
        refine (pull_no2 h hw h1).mono ?_
        rintro e w' ⟨rfl, h3⟩
        exact ⟨h3, fun _ => rfl, fun c r e => by rw [h2] at e; cases e⟩
      rcases r with _ | ⟨n, r⟩
      · exact stop2 (fun _ _ e => by cases e) rfl
      · rcases hw2 : isWord n with _ | _
        · exact stop2 (fun s r e => by cases e; exact hw2) (by simp [restPull, hw, hw2])
        · refine (pull_yes h hw hw2).mono ?_
          rintro e w' ⟨rfl, h2, h3⟩
          refine ⟨h3, fun e => by simp [restPull, hw, hw2] at e, fun c r' e => ?_⟩
          simp only [restPull, hw, hw2, Bool.and_self, if_true, Option.some.injEq, Prod.mk.injEq] at e
          obtain ⟨rfl, rfl⟩ := e
          exact ⟨rfl, _, _, _, h2, cmdAt_words hk hs (hl f List.mem_cons_self) (hl n (by simp)) noTxt40⟩

theorem restLoad_ok : RestOk 111 restLoad := by
  intro D N w l k s hk hs h ht hl
  rcases l with _ | ⟨t, r⟩
  · refine (load_nil h).mono ?_
    rintro e w' ⟨rfl, h2⟩
    exact ⟨h2, fun _ => rfl, fun c r e => by cases e⟩
  · rcases hu : unhexL t.data.toList with _ | b
    · refine (load_no h hu (hl t List.mem_cons_self)).mono ?_
      rintro e w' ⟨rfl, h2⟩
      exact ⟨h2, fun _ => rfl, fun c r e => by simp [restLoad, hu] at e⟩
    · refine (load_yes h hu (hl t List.mem_cons_self)).mono ?_
      rintro e w' ⟨rfl, v, ho, h2, h3⟩
      refine ⟨h3, fun e => by simp [restLoad, hu] at e, fun c r' e => ?_⟩
      simp only [restLoad, hu, Option.map_some, Option.some.injEq, Prod.mk.injEq] at e
      obtain ⟨rfl, rfl⟩ := e
      obtain ⟨A, n, rfl⟩ := own_shape ho
      have h0 := own_zero ho
      have hr := own_room h0 rfl
      refine ⟨rfl, _, _, _, h2, ⟨hk, Nat.le_trans hs (by decide), noTxt63, noTxt63, noTxt63, ptZero_inR, ⟨own_rows h0 (fun g hg => own_from ho g hg), Nat.le_trans hr.1 hr.2⟩, hr⟩, ob (.slice A b.length n), ⟨[], _, PtO.bare, ⟨h0, rfl⟩, rfl⟩, ob_nodup _, fun g hg => own_from ho g hg⟩

end Go.Proofs.YtjjaojnglnpgaaaGreatDoor

namespace Go.Proofs.YtjjaojnglnpgaaaGreatDoor
open Go.RowKit

theorem idleP (p q : Addr) (w : World) :
    CallsD Tryz.prog 75 #[.pointer (some p), .pointer (some q)] .returning w fun e u' w' => e = .returned (.tuple #[]) ∧ u' = .returning ∧ w' = w := by
  refine callsD_of_wpS Tryz.func75 rfl fun c₀ cs hu => ?_
  apply wpS_seq
  apply wpS_region
  simp [wpOpsS, go_sem, recoverD, hu, Tryz.ntmps75, Exit.thenS]
  refine wpS_of_wp ?_
  rw [show (#[Value.pointer (some p), Value.pointer (some q)] ++ (((Array.replicate 15 undef).setIfInBounds 3 Value.nilIface).setIfInBounds 0 Value.nilIface)) = #[.pointer (some p), .pointer (some q), .nilIface, undef, undef, .nilIface, undef, undef, undef, undef, undef, undef, undef, undef, undef, undef, undef] from rfl]
  go_wp2_with fail
  cases c₀
  simp_all [bodyPostS, results, Tryz.results75]

/-- the cells of no command -/
abbrev zeroL : List Value := [.int .u8 0, .string { data := #[] }, .string { data := #[] }, .string { data := #[] }, .string { data := #[] }, .int .u8 0, .string { data := #[] }, .string { data := #[] }, .int .i64 0, .slice none 0 0, .slice none 0 0, .int .u8 0, .slice none 0 0, .int .i64 0, .int .i64 0, .string { data := #[] }, .string { data := #[] }, .slice none 0 0, .slice none 0 0, .slice none 0 0]
/-- the command is wiped out, and it is none -/
def wipedP (w : World) (p q : Nat) : World := ((w.alloc (.cells #[] 136)).setCells p 0 zeroL).setCell ⟨q, 0, none⟩ (.bool false)
theorem zero_one : zeroL.toArray.all (·.oneCell') = true := all_oneCell_toArray (cs := zeroL) (by
  intro v hv
  simp only [zeroL, List.mem_cons, List.not_mem_nil, or_false] at hv
  rcases hv with rfl | rfl | rfl | rfl | rfl | rfl | rfl | rfl | rfl | rfl | rfl | rfl | rfl | rfl | rfl | rfl | rfl | rfl | rfl | rfl <;> rfl)
theorem info20 : (Tryz.prog.info? 46).map (·.size) = some 20 := by kernel_rfl

set_option maxHeartbeats 2000000 in
set_option maxRecDepth 1000000 in
theorem caughtP (p q : Nat) (z : Value) (w : World) (older : List PanicEntry) (hp : w.cell? ⟨q, 0, none⟩ = some z) (hpf : w.frozen? ⟨q, 0, none⟩ = false) (hpq : ¬ p = q) (ht : w.there p 0 20) :
    CallsD Tryz.prog 75 #[.pointer (some ⟨p, 0, none⟩), .pointer (some ⟨q, 0, none⟩)] (.panicking ({ v := .iface 136 (.agg #[]), recovered := false } :: older)) w fun e u' w' =>
      e = .returned (.tuple #[]) ∧ u' = .panicking ({ v := .iface 136 (.agg #[]), recovered := true } :: older) ∧ w' = wipedP w p q := by
  refine callsD_of_wpS Tryz.func75 rfl fun c₀ cs hu => ?_
  apply wpS_seq
  apply wpS_region
  simp [wpOpsS, go_sem, recoverD, hu, Tryz.ntmps75, Exit.thenS]
  have hpq' : ¬ q = p := fun e => hpq e.symm
  have hqn := block_lt_of_cell hp
  have hbb := below_alloc w (.cells #[] 136)
  have Ht : (w.alloc (.cells #[] 136)).there p 0 20 := World.there_alloc ht _
  have Hp : ((w.alloc (.cells #[] 136)).setCells p 0 zeroL).cell? ⟨q, 0, none⟩ = some z := (World.cell?_setCells_out p zeroL 0 _ ⟨q, 0, none⟩ (fun e _ => absurd e hpq')).trans ((hbb.cell (p := ⟨q, 0, none⟩) hqn).trans hp)
  have Fp : ((w.alloc (.cells #[] 136)).setCells p 0 zeroL).frozen? ⟨q, 0, none⟩ = false := (World.frozen?_setCells p zeroL 0 _ _).trans ((hbb.frozen (p := ⟨q, 0, none⟩) hqn).trans hpf)
  have hta : ∀ w', (Instr.typeAssert (.iface 136 (.agg #[])) 20 136 true).run Tryz.prog w' = .ok (.tuple #[.agg #[], .bool true]) w' := fun w' => by simp [Instr.typeAssert, run_underlying Tryz.underlying136]
  clear hbb hp hpf ht
  refine wpS_of_wp ?_
  rw [show (#[Value.pointer (some (⟨p, 0, none⟩ : Addr)), Value.pointer (some (⟨q, 0, none⟩ : Addr))] ++ (((Array.replicate 15 undef).setIfInBounds 3 (Value.iface 136 (Value.agg #[]))).setIfInBounds 0 (Value.iface 136 (Value.agg #[])))) = #[.pointer (some ⟨p, 0, none⟩), .pointer (some ⟨q, 0, none⟩), .iface 136 (.agg #[]), undef, undef, .iface 136 (.agg #[]), undef, undef, undef, undef, undef, undef, undef, undef, undef, undef, undef] from rfl]
  go_upto_region 5 with fail
  generalize hWw : w.alloc (.cells #[] 136) = W at Hp Fp Ht ⊢
  generalize hV : W.setCells p 0 zeroL = V at Hp Fp
  have HW := hide hWw
  have HV := hide hV
  clear hWw hV
  go_wp2_with (refine wpList_store_mid rfl _ _ _ rfl p 0 zeroL.toArray rfl rfl Ht info20 zero_one ?_; rw [show W.setCells p 0 zeroL.toArray.toList = V from HV.out])
  clear hta Hp Fp Ht
  cases c₀
  simp_all [bodyPostS, results, Tryz.results75]
  unfold wipedP
  rw [HW.out, HV.out]

end Go.Proofs.YtjjaojnglnpgaaaGreatDoor

namespace Go.Proofs.YtjjaojnglnpgaaaGreatDoor
open Go.RowKit
open Go.Maps (Keyed int_keyed keyOf_int_mk)

/-- the function of a kind's way -/
def wayFn : Nat → Nat
  | 2 => 106
  | 3 => 107
  | 4 => 108
  | 5 => 109
  | 6 => 110
  | 9 => 111
  | _ => 105
abbrev wayV (p : Nat × ByteArray) : Value := .agg #[.string p.2, .func (.func (wayFn p.1)) #[] #[]]
open Classical in
/-- what a way reads as: its kind -/
noncomputable def wayR (v : Value) : Option (DataW Unit × List MemPlace) := (kwL.find? fun p => decide (v = wayV p)).map fun p => (.lit (.int .u8 p.1), [])
open Classical in
theorem wayR_mk {p : Nat × ByteArray} (hp : p ∈ kwL) : wayR (wayV p) = some (.lit (.int .u8 p.1), []) := by
  unfold wayR
  rcases hf : kwL.find? (fun q => decide (wayV p = wayV q)) with _ | q
  · have := List.find?_eq_none.1 hf p hp
    simp at this
  · have h1 := List.mem_of_find?_eq_some hf
    have h2 := List.find?_some hf
    simp only [decide_eq_true_eq] at h2
    have h3 : p.2 = q.2 := by
      have this := congrArg (fun a : Array Value => a[0]?) (Value.agg.inj h2)
      simpa using this
    have h4 := kindOf_of (s := p.2) (k := p.1) hp
    have h5 := kindOf_of (s := q.2) (k := q.1) h1
    rw [← h3, h4] at h5
    injection h5 with h5
    rw [Option.map_some, h5]
open Classical in
theorem wayR_inv {v : Value} {y : DataW Unit × List MemPlace} (h : wayR v = some y) : ∃ p : { p : Nat × ByteArray // p ∈ kwL }, v = wayV p.1 := by
  unfold wayR at h
  obtain ⟨p, hp, _⟩ := Option.map_eq_some_iff.1 h
  have h2 := List.find?_some hp
  simp only [decide_eq_true_eq] at h2
  exact ⟨⟨p, List.mem_of_find?_eq_some hp⟩, h2⟩
/-- what the table reads as -/
def waysD : DataW Unit := (((((((((DataW.map []).put (.int .u8 1) (.lit (.int .u8 1))).put (.int .u8 2) (.lit (.int .u8 2))).put (.int .u8 3) (.lit (.int .u8 3))).put (.int .u8 4) (.lit (.int .u8 4))).put (.int .u8 5) (.lit (.int .u8 5))).put (.int .u8 6) (.lit (.int .u8 6))).put (.int .u8 7) (.lit (.int .u8 7))).put (.int .u8 8) (.lit (.int .u8 8))).put (.int .u8 9) (.lit (.int .u8 9))
theorem waysD_eq : waysD = .map [(.int .u8 1, .lit (.int .u8 1)), (.int .u8 2, .lit (.int .u8 2)), (.int .u8 3, .lit (.int .u8 3)), (.int .u8 4, .lit (.int .u8 4)), (.int .u8 5, .lit (.int .u8 5)), (.int .u8 6, .lit (.int .u8 6)), (.int .u8 7, .lit (.int .u8 7)), (.int .u8 8, .lit (.int .u8 8)), (.int .u8 9, .lit (.int .u8 9))] := by rfl
theorem waysD_has {p : Nat × ByteArray} (hp : p ∈ kwL) : Maps.has waysD (.int .u8 p.1) = true := by
  rw [waysD_eq]
  simp only [kwL, List.mem_cons, List.not_mem_nil, or_false] at hp
  rcases hp with rfl | rfl | rfl | rfl | rfl | rfl | rfl | rfl | rfl <;> rfl
theorem waysD_at {x : Int} {p : Nat × ByteArray} (hp : p ∈ kwL) (h : ∀ zd, waysD.atKey (.int .u8 x) zd = .lit (.int .u8 p.1)) : x = (p.1 : Int) := by
  have h := h (.lit (.bool false))
  rw [waysD_eq] at h
  by_cases e1 : x = 1
  · subst e1; simp [DataW.atKey, Lit.sameKey] at h; omega
  by_cases e2 : x = 2
  · subst e2; simp [DataW.atKey, Lit.sameKey] at h; omega
  by_cases e3 : x = 3
  · subst e3; simp [DataW.atKey, Lit.sameKey] at h; omega
  by_cases e4 : x = 4
  · subst e4; simp [DataW.atKey, Lit.sameKey] at h; omega
  by_cases e5 : x = 5
  · subst e5; simp [DataW.atKey, Lit.sameKey] at h; omega
  by_cases e6 : x = 6
  · subst e6; simp [DataW.atKey, Lit.sameKey] at h; omega
  by_cases e7 : x = 7
  · subst e7; simp [DataW.atKey, Lit.sameKey] at h; omega
  by_cases e8 : x = 8
  · subst e8; simp [DataW.atKey, Lit.sameKey] at h; omega
  by_cases e9 : x = 9
  · subst e9; simp [DataW.atKey, Lit.sameKey] at h; omega
  simp [DataW.atKey, Lit.sameKey, Ne.symm e1, Ne.symm e2, Ne.symm e3, Ne.symm e4, Ne.symm e5, Ne.symm e6, Ne.symm e7, Ne.symm e8, Ne.symm e9] at h

theorem kw_uniq {k : Nat} {s t : ByteArray} (h : (k, s) ∈ kwL) (h' : (k, t) ∈ kwL) : s = t := by
  simp only [kwL, List.mem_cons, List.not_mem_nil, or_false, Prod.mk.injEq] at h
  rcases h with ⟨rfl, rfl⟩ | ⟨rfl, rfl⟩ | ⟨rfl, rfl⟩ | ⟨rfl, rfl⟩ | ⟨rfl, rfl⟩ | ⟨rfl, rfl⟩ | ⟨rfl, rfl⟩ | ⟨rfl, rfl⟩ | ⟨rfl, rfl⟩ <;>
  · simp [kwL] at h'
    exact h'.symm
theorem upon_insert_own {H : Type} {P : Program} {T k E : TypeId} {R : Value → Option (DataW H × List MemPlace)} {b n : Nat} {D : DataW H} {w : World} {o : Oper} {a : Act} {K' : Act → World → Prop} {Q : Exit → Act → World → Prop} {key v : Value} {kl : Lit} {d : DataW H} {ps : List MemPlace}
    (hd : o.dst = none) (ht : P.underlying T = some (.map k E)) (K : Keyed P k) (hown : w.ownsMap P k R b n D) (hn : n < maxLen) (hkey : keyOf P k key = some kl) (hv : R v = some (d, ps))
    (h : ∀ w', w'.ownsMap P k R b (n + 1) (D.put kl d) → w.grownBy w' (some b) → K' a w') :
    Oper.upon P o a K' Q (((Instr.mapUpdate T (.map (some b)) key v).run P w).andThen fun _ w' => .ok .skip w') := by
  obtain ⟨w', hrun, h1, h2⟩ := hown.update K ht hn hkey hv
  rw [hrun]
  show K' (a.put o.dst undef) w'
  rw [hd]
  exact h w' h1 h2
theorem ckey : Keyed Tryz.prog 32 := int_keyed Tryz.underlying32
theorem ckey_of (x : Int) (h : (Lit.int .u8 x).wf = true) : keyOf Tryz.prog 32 (.int .u8 x) = some (.int .u8 x) := keyOf_int_mk Tryz.underlying32 h
/-- the table, of its own -/
abbrev WaysAt (w : World) (b : Nat) : Prop := w.ownsMap Tryz.prog 32 wayR b 9 waysD
set_option maxHeartbeats 4000000 in
set_option maxRecDepth 1000000 in
theorem ways_any (w : World) : Calls Tryz.prog 40 #[] w fun e w' => e = .returned (.map (some w.heap.size)) ∧ WaysAt w' w.heap.size ∧ Below w.heap.size w w' := by
  have T := hide (World.ownsMap_made w Tryz.prog 32 wayR)
  have HB : Hid (Below w.heap.size w (w.alloc (.map #[] 0))) := hide (below_alloc w _)
  have hmm := @run_makeMap Tryz.prog
  go_enter Tryz.func40, Tryz.ntmps40
  have hv1 : wayR (.agg #[.string { data := #[110, 101, 119] }, .func (.func 105) #[] #[]]) = some (.lit (.int .u8 1), []) := wayR_mk (p := (1, kwNew)) (by simp [kwL])
  have hv2 : wayR (.agg #[.string { data := #[114, 101, 99, 111, 114, 100] }, .func (.func 106) #[] #[]]) = some (.lit (.int .u8 2), []) := wayR_mk (p := (2, kwRecord)) (by simp [kwL])
  have hv3 : wayR (.agg #[.string { data := #[112, 117, 108, 108] }, .func (.func 107) #[] #[]]) = some (.lit (.int .u8 3), []) := wayR_mk (p := (3, kwPull)) (by simp [kwL])
  have hv4 : wayR (.agg #[.string { data := #[117, 110, 112, 117, 108, 108] }, .func (.func 108) #[] #[]]) = some (.lit (.int .u8 4), []) := wayR_mk (p := (4, kwUnpull)) (by simp [kwL])
  have hv5 : wayR (.agg #[.string { data := #[109, 101, 114, 103, 101] }, .func (.func 109) #[] #[]]) = some (.lit (.int .u8 5), []) := wayR_mk (p := (5, kwMerge)) (by simp [kwL])
  have hv6 : wayR (.agg #[.string { data := #[99, 104, 101, 99, 107, 111, 117, 116] }, .func (.func 110) #[] #[]]) = some (.lit (.int .u8 6), []) := wayR_mk (p := (6, kwCheckout)) (by simp [kwL])
  have hv7 : wayR (.agg #[.string { data := #[108, 111, 103] }, .func (.func 105) #[] #[]]) = some (.lit (.int .u8 7), []) := wayR_mk (p := (7, kwLog)) (by simp [kwL])
  have hv8 : wayR (.agg #[.string { data := #[101, 120, 112, 111, 114, 116] }, .func (.func 105) #[] #[]]) = some (.lit (.int .u8 8), []) := wayR_mk (p := (8, kwExport)) (by simp [kwL])
  have hv9 : wayR (.agg #[.string { data := #[105, 109, 112, 111, 114, 116] }, .func (.func 111) #[] #[]]) = some (.lit (.int .u8 9), []) := wayR_mk (p := (9, kwImport)) (by simp [kwL])
  go_wp2_with fail
  generalize w.alloc (.map #[] 0) = wb at T HB ⊢
  go_wp2_with (first
    | ((with_reducible refine upon_insert_own ?_ Tryz.underlying100 ckey T.out (by unfold maxLen; omega) (ckey_of 1 (by decide)) hv1 ?_); exact rfl; intro w1 T0 hg; have HB1 : Hid (Below w.heap.size w w1) := hide (HB.out.grown hg HB.out.size (by rintro k ⟨⟩; exact Nat.le_refl _)); clear T HB hg; have T := hide T0; have HB := HB1; clear HB1 T0)
    | ((with_reducible refine upon_insert_own ?_ Tryz.underlying100 ckey T.out (by unfold maxLen; omega) (ckey_of 2 (by decide)) hv2 ?_); exact rfl; intro w1 T0 hg; have HB1 : Hid (Below w.heap.size w w1) := hide (HB.out.grown hg HB.out.size (by rintro k ⟨⟩; exact Nat.le_refl _)); clear T HB hg; have T := hide T0; have HB := HB1; clear HB1 T0)
    | ((with_reducible refine upon_insert_own ?_ Tryz.underlying100 ckey T.out (by unfold maxLen; omega) (ckey_of 3 (by decide)) hv3 ?_); exact rfl; intro w1 T0 hg; have HB1 : Hid (Below w.heap.size w w1) := hide (HB.out.grown hg HB.out.size (by rintro k ⟨⟩; exact Nat.le_refl _)); clear T HB hg; have T := hide T0; have HB := HB1; clear HB1 T0)
    | ((with_reducible refine upon_insert_own ?_ Tryz.underlying100 ckey T.out (by unfold maxLen; omega) (ckey_of 4 (by decide)) hv4 ?_); exact rfl; intro w1 T0 hg; have HB1 : Hid (Below w.heap.size w w1) := hide (HB.out.grown hg HB.out.size (by rintro k ⟨⟩; exact Nat.le_refl _)); clear T HB hg; have T := hide T0; have HB := HB1; clear HB1 T0)
    | ((with_reducible refine upon_insert_own ?_ Tryz.underlying100 ckey T.out (by unfold maxLen; omega) (ckey_of 5 (by decide)) hv5 ?_); exact rfl; intro w1 T0 hg; have HB1 : Hid (Below w.heap.size w w1) := hide (HB.out.grown hg HB.out.size (by rintro k ⟨⟩; exact Nat.le_refl _)); clear T HB hg; have T := hide T0; have HB := HB1; clear HB1 T0)
    | ((with_reducible refine upon_insert_own ?_ Tryz.underlying100 ckey T.out (by unfold maxLen; omega) (ckey_of 6 (by decide)) hv6 ?_); exact rfl; intro w1 T0 hg; have HB1 : Hid (Below w.heap.size w w1) := hide (HB.out.grown hg HB.out.size (by rintro k ⟨⟩; exact Nat.le_refl _)); clear T HB hg; have T := hide T0; have HB := HB1; clear HB1 T0)
    | ((with_reducible refine upon_insert_own ?_ Tryz.underlying100 ckey T.out (by unfold maxLen; omega) (ckey_of 7 (by decide)) hv7 ?_); exact rfl; intro w1 T0 hg; have HB1 : Hid (Below w.heap.size w w1) := hide (HB.out.grown hg HB.out.size (by rintro k ⟨⟩; exact Nat.le_refl _)); clear T HB hg; have T := hide T0; have HB := HB1; clear HB1 T0)
    | ((with_reducible refine upon_insert_own ?_ Tryz.underlying100 ckey T.out (by unfold maxLen; omega) (ckey_of 8 (by decide)) hv8 ?_); exact rfl; intro w1 T0 hg; have HB1 : Hid (Below w.heap.size w w1) := hide (HB.out.grown hg HB.out.size (by rintro k ⟨⟩; exact Nat.le_refl _)); clear T HB hg; have T := hide T0; have HB := HB1; clear HB1 T0)
    | ((with_reducible refine upon_insert_own ?_ Tryz.underlying100 ckey T.out (by unfold maxLen; omega) (ckey_of 9 (by decide)) hv9 ?_); exact rfl; intro w1 T0 hg; have HB1 : Hid (Below w.heap.size w w1) := hide (HB.out.grown hg HB.out.size (by rintro k ⟨⟩; exact Nat.le_refl _)); clear T HB hg; have T := hide T0; have HB := HB1; clear HB1 T0))
  go_ret
  exact ⟨rfl, T.out, HB.out⟩

end Go.Proofs.YtjjaojnglnpgaaaGreatDoor

namespace Go.Proofs.YtjjaojnglnpgaaaGreatDoor

/-- the parts between a byte -/
def partsL (c : UInt8) : List UInt8 → List (List UInt8)
  | [] => [[]]
  | b :: r => if b = c then [] :: partsL c r else match partsL c r with
    | h :: t => (b :: h) :: t
    | [] => [[b]]
theorem partsL_ne (c : UInt8) : ∀ l, partsL c l ≠ []
  | [] => by simp [partsL]
  | b :: r => by
    unfold partsL
    split
    · simp
    · split <;> simp
theorem partsL_none {c : UInt8} : ∀ {l : List UInt8}, c ∉ l → partsL c l = [l]
  | [], _ => rfl
  | b :: r, h => by
    have h1 : ¬ b = c := fun e => h (by simp [e])
    have h2 : c ∉ r := fun e => h (List.mem_cons_of_mem _ e)
    rw [partsL, if_neg h1, partsL_none h2]
theorem partsL_le {c : UInt8} : ∀ {l x : List UInt8}, x ∈ partsL c l → x.length ≤ l.length ∧ c ∉ x
  | [], x, h => by
    simp only [partsL, List.mem_singleton] at h
    subst h
    simp
  | b :: r, x, h => by
    unfold partsL at h
    split at h
    · rcases List.mem_cons.1 h with rfl | h
      · simp
      · have := partsL_le h
        exact ⟨by simp; omega, this.2⟩
    · rename_i hb
      rcases hp : partsL c r with _ | ⟨y, t⟩
      · exact absurd hp (partsL_ne c r)
      · rw [hp] at h
        simp only [List.mem_cons] at h
        rcases h with rfl | h
        · have := partsL_le (c := c) (l := r) (x := y) (by rw [hp]; simp)
          exact ⟨by simp; omega, by simp only [List.mem_cons, not_or]; exact ⟨fun e => hb e.symm, this.2⟩⟩
        · have := partsL_le (c := c) (l := r) (x := x) (by rw [hp]; simp [h])
          exact ⟨by simp; omega, this.2⟩
theorem partsL_snoc (c b : UInt8) : ∀ (l : List UInt8) (d : List (List UInt8)) (x : List UInt8), partsL c l = d ++ [x] → partsL c (l ++ [b]) = if b = c then d ++ [x, []] else d ++ [x ++ [b]]
  | [], d, x, h => by
    simp only [partsL] at h
    obtain ⟨rfl, rfl⟩ : d = [] ∧ x = [] := by
      rcases d with _ | ⟨d0, d⟩
      · simpa using h.symm
      · simp at h
    by_cases hb : b = c <;> simp [partsL, hb]
  | a :: r, d, x, h => by
    rw [List.cons_append]
    by_cases ha : a = c
    · rw [partsL, if_pos ha] at h ⊢
      rcases d with _ | ⟨d0, d⟩
      · rw [List.nil_append, List.cons.injEq] at h
        exact absurd h.2 (partsL_ne c r)
      · rw [List.cons_append, List.cons.injEq] at h
        have ih := partsL_snoc c b r d x h.2
        rw [ih, ← h.1]
        split <;> simp
    · rw [partsL, if_neg ha] at h
      rcases hp : partsL c r with _ | ⟨y, t⟩
      · exact absurd hp (partsL_ne c r)
      · rw [hp] at h
        simp only at h
        rcases d with _ | ⟨d0, d⟩
        · simp only [List.nil_append, List.cons.injEq] at h
          obtain ⟨rfl, rfl⟩ := h
          have ih := partsL_snoc c b r [] y (by rw [hp]; rfl)
          rw [partsL, if_neg ha, ih]
          by_cases hb : b = c <;> simp [hb]
        · rw [List.cons_append, List.cons.injEq] at h
          obtain ⟨rfl, rfl⟩ := h
          have ih := partsL_snoc c b r (y :: d) x (by rw [hp]; rfl)
          rw [partsL, if_neg ha, ih]
          by_cases hb : b = c <;> simp [hb]
theorem splitK_parts (c : UInt8) : ∀ l, Lib.splitK [c] 0 (Lib.count l [c]) l = partsL c l
  | [] => by rw [Lib.count_one]; rfl
  | b :: r => by
    have ih := splitK_parts c r
    by_cases h : b = c
    · subst h
      have hi : Lib.index (b :: r) [b] = 0 := by simp [Lib.index]
      rw [Lib.count_cons_eq, Nat.add_comm, Lib.splitK, hi]
      simp [partsL, ih]
    · have hi : Lib.index (b :: r) [c] = if Lib.index r [c] == -1 then -1 else Lib.index r [c] + 1 := by simp [Lib.index, Ne.symm h]
      rw [Lib.count_cons_ne _ _ _ h, partsL, if_neg h]
      rcases hk : Lib.count r [c] with _ | k
      · rw [hk] at ih
        rw [Lib.splitK] at ih ⊢
        rw [← ih]
      · rw [hk] at ih
        rw [Lib.splitK] at ih ⊢
        rw [hi]
        rcases Lib.index_spec r [c] with ⟨h1, _⟩ | ⟨i, h1, _⟩
        · rw [h1] at ih ⊢
          rw [if_pos (by decide)] at ih
          rw [if_pos (by decide), ← ih]
        · rw [h1] at ih ⊢
          have hn : ((i : Int) == -1) = false := by rw [beq_eq_false_iff_ne]; omega
          have hn1 : ((i : Int) + 1 == -1) = false := by rw [beq_eq_false_iff_ne]; omega
          rw [hn] at ih ⊢
          simp only [Bool.false_eq_true, if_false] at ih ⊢
          rw [hn1]
          simp only [Bool.false_eq_true, if_false]
          rw [← ih]
          have e1 : ((i : Int) + 1).toNat = i + 1 := by omega
          have e2 : (i : Int).toNat = i := by omega
          rw [e1, e2]
          simp
theorem data_len (b : ByteArray) : b.data.toList.length = b.size := by rw [Array.length_toList]; rfl
/-- a text's parts, as strings.Split tells -/
def wordsOf (c : UInt8) (s : ByteArray) : List ByteArray := Lib.splitB ⟨#[c]⟩ 0 (Lib.countB s ⟨#[c]⟩) s
theorem wordsOf_data (c : UInt8) (s : ByteArray) : (wordsOf c s).map (·.data.toList) = partsL c s.data.toList := by
  unfold wordsOf
  rw [Lib.splitB_data]
  exact splitK_parts c _
theorem wordsOf_ne (c : UInt8) (s : ByteArray) : wordsOf c s ≠ [] := fun h => partsL_ne c s.data.toList (by rw [← wordsOf_data, h]; rfl)
theorem wordsOf_le {c : UInt8} {s x : ByteArray} (h : x ∈ wordsOf c s) : x.size ≤ s.size ∧ c ∉ x.data.toList := by
  have h1 : x.data.toList ∈ partsL c s.data.toList := by
    rw [← wordsOf_data]
    exact List.mem_map_of_mem h
  have := partsL_le h1
  exact ⟨by have h2 := this.1; rw [Array.length_toList, Array.length_toList] at h2; exact h2, this.2⟩
theorem wordsOf_len (c : UInt8) (s : ByteArray) : (wordsOf c s).length = Lib.countB s ⟨#[c]⟩ + 1 := Lib.splitB_all ⟨#[c]⟩ (Nat.le_refl 1) 0 _ s rfl

end Go.Proofs.YtjjaojnglnpgaaaGreatDoor

namespace Go.Proofs.YtjjaojnglnpgaaaGreatDoor
open Go.RowKit

/-- the twenty cells of no command -/
abbrev zeroVs : List Value := cmdVs Cmd.zero Ph.zero none 0
theorem zeroVs_eq : zeroVs = zeroL := rfl
/-- what a line's parse answers -/
def ParsePost (w : World) (s : ByteArray) (e : Ending) (w' : World) : Prop :=
  Below w.heap.size w w' ∧ (lineOf (wordsOf 32 s) = none → e = .returned (.tuple #[.agg zeroVs.toArray, .bool false])) ∧
    ∀ c, lineOf (wordsOf 32 s) = some c → ∃ x A n, e = .returned (.tuple #[.agg (cmdVs c x A n).toArray, .bool true]) ∧ CmdAt w.heap.size w' c x A n
theorem mapM_two {P : Program} {W : World} (f : ResultVar → Sem Value) (r0 r1 : ResultVar) (v0 v1 : Value) (h0 : (f r0).run P W = .ok v0 W) (h1 : (f r1).run P W = .ok v1 W) : ((#[r0, r1].mapM f).run P W) = .ok #[v0, v1] W := by
  simp [go_sem, h0, h1]
theorem parse_results {T : Array Value} {W : World} {p q : Nat} {cs : List Value} {b : Bool} (h2 : T[2]? = some (.pointer (some ⟨p, 0, none⟩))) (h3 : T[3]? = some (.pointer (some ⟨q, 0, none⟩)))
    (hr : W.rangeAt p 0 cs) (hl : cs.length = 20) (hb : W.cell? ⟨q, 0, none⟩ = some (.bool b)) : (results Tryz.f34 T).run Tryz.prog W = .ok (.tuple #[.agg cs.toArray, .bool b]) W := by
  have hld := run_loadVar_mid (P := Tryz.prog) W p 0 46 cs _ hr Tryz.underlying46 rfl (by rw [hl]; exact info20)
  have hld2 : (loadVar 4 ⟨q, 0, none⟩).run Tryz.prog W = .ok (.bool b) W := by simp [go_sem, hb]
  have hg2 : T.getD 2 undef = .pointer (some ⟨p, 0, none⟩) := by rw [Array.getD_eq_getD_getElem?, h2]; rfl
  have hg3 : T.getD 3 undef = .pointer (some ⟨q, 0, none⟩) := by rw [Array.getD_eq_getD_getElem?, h3]; rfl
  unfold results
  rw [Sem.run_bind, Tryz.results34, mapM_two _ _ _ (.agg cs.toArray) (.bool b)]
  · rfl
  · show ((asAddr (T.getD 2 undef)) >>= fun a => loadVar 46 a).run Tryz.prog W = _
    rw [hg2, Sem.run_bind]
    simp only [asAddr, Sem.run_pure, Result.andThen_ok]
    exact hld
  · show ((asAddr (T.getD 3 undef)) >>= fun a => loadVar 4 a).run Tryz.prog W = _
    rw [hg3, Sem.run_bind]
    simp only [asAddr, Sem.run_pure, Result.andThen_ok]
    exact hld2
theorem parse_ret {w W : World} {s : ByteArray} {T : Array Value} {p q : Nat} {cs : List Value} {b : Bool} (h2 : T[2]? = some (.pointer (some ⟨p, 0, none⟩))) (h3 : T[3]? = some (.pointer (some ⟨q, 0, none⟩)))
    (hr : W.rangeAt p 0 cs) (hl : cs.length = 20) (hb : W.cell? ⟨q, 0, none⟩ = some (.bool b)) (hP : ParsePost w s (.returned (.tuple #[.agg cs.toArray, .bool b])) W) :
    Leaves Tryz.prog Tryz.f34 T (ParsePost w s) [{ target := .fn (.func 75) #[.pointer (some ⟨p, 0, none⟩), .pointer (some ⟨q, 0, none⟩)], args := #[] }] .returning W := by
  refine leaves_cons (f := 75) (args := #[.pointer (some ⟨p, 0, none⟩), .pointer (some ⟨q, 0, none⟩)]) (by simp) (by simp [go_sem]) ?_
  refine (idleP _ _ _).mono ?_
  rintro e u' w'' ⟨rfl, rfl, rfl⟩
  exact ⟨_, parse_results h2 h3 hr hl hb, hP⟩
theorem parse_fell {w W : World} {s : ByteArray} {T : Array Value} {p q : Nat} {z : Value} (h2 : T[2]? = some (.pointer (some ⟨p, 0, none⟩))) (h3 : T[3]? = some (.pointer (some ⟨q, 0, none⟩)))
    (ht : W.there p 0 20) (hq : W.cell? ⟨q, 0, none⟩ = some z) (hqf : W.frozen? ⟨q, 0, none⟩ = false) (hpq : ¬ p = q) (hB : Below w.heap.size w W) (hp : w.heap.size ≤ p) (hqn : w.heap.size ≤ q) (hn : lineOf (wordsOf 32 s) = none) :
    Leaves Tryz.prog Tryz.f34 T (ParsePost w s) [{ target := .fn (.func 75) #[.pointer (some ⟨p, 0, none⟩), .pointer (some ⟨q, 0, none⟩)], args := #[] }]
      (.panicking [{ v := .iface 136 (.agg #[]), recovered := false }]) W := by
  refine leaves_cons (f := 75) (args := #[.pointer (some ⟨p, 0, none⟩), .pointer (some ⟨q, 0, none⟩)]) (by simp) (by simp [go_sem]) ?_
  refine (caughtP p q z W [] hq hqf hpq ht).mono ?_
  rintro e u' w'' ⟨rfl, rfl, rfl⟩
  have hpq' : ¬ q = p := fun e => hpq e.symm
  have hpl : p < W.heap.size := by
    obtain ⟨v, hv⟩ := Option.isSome_iff_exists.1 (ht 0 (by decide)).1
    exact block_lt_of_cell hv
  have hqn2 := block_lt_of_cell hq
  have hbb := below_alloc W (.cells #[] 136)
  have ht1 : (W.alloc (.cells #[] 136)).there p 0 20 := World.there_alloc ht _
  have hq1 : ((W.alloc (.cells #[] 136)).setCells p 0 zeroL).cell? ⟨q, 0, none⟩ = some z := (World.cell?_setCells_out p zeroL 0 _ ⟨q, 0, none⟩ (fun e _ => absurd e hpq')).trans ((hbb.cell (p := ⟨q, 0, none⟩) hqn2).trans hq)
  have hr : (wipedP W p q).rangeAt p 0 zeroL := by
    intro j v hv
    have h := World.rangeAt_setCells_same (W.alloc (.cells #[] 136)) p 0 zeroL ht1 j v hv
    unfold wipedP
    rw [World.cell?_setCell_other]
    · exact h
    · intro e
      injection e with e1
      exact hpq' e1
  refine ⟨_, parse_results h2 h3 hr rfl (World.cell?_setCell_same _ _ _ hq1), ?_, fun _ => rfl, fun c hc => by rw [hn] at hc; cases hc⟩
  unfold wipedP
  refine Below.setCell ?_ (p := ⟨q, 0, none⟩) hqn _
  exact Keep.below (Keep.trans (P := fun k => k < w.heap.size) (Keep.of_below (hB.alloc hB.size _) fun k hk => hk) (keep_setCells p (fun h => by omega) zeroL 0 _))
/-- the result's two blocks, while the line is read -/
structure ParseAt (w W : World) : Prop where
  below : Below w.heap.size w W
  size : w.heap.size + 2 ≤ W.heap.size
  cr : W.rangeAt w.heap.size 0 zeroL
  ct : W.there w.heap.size 0 20
  iq : W.cell? ⟨w.heap.size + 1, 0, none⟩ = some (.bool false)
  fr : W.frozen? ⟨w.heap.size + 1, 0, none⟩ = false
theorem ParseAt.keep {w W W' : World} (h : ParseAt w W) (hk : Keep (fun k => k < w.heap.size + 2) W W') : ParseAt w W' where
  below := h.below.trans (Keep.below (hk.mono fun k hk => by omega))
  size := Nat.le_trans h.size hk.size
  cr := fun j v hv => (hk.cell (a := ⟨w.heap.size, 0 + j, none⟩) (by show w.heap.size < _; omega)).trans (h.cr j v hv)
  ct := fun j hj => ⟨by rw [hk.cell (a := ⟨w.heap.size, 0 + j, none⟩) (by show w.heap.size < _; omega)]; exact (h.ct j hj).1, (hk.frozen (a := ⟨w.heap.size, 0 + j, none⟩) (by show w.heap.size < _; omega)).trans (h.ct j hj).2⟩
  iq := (hk.cell (a := ⟨w.heap.size + 1, 0, none⟩) (by show w.heap.size + 1 < _; omega)).trans h.iq
  fr := (hk.frozen (a := ⟨w.heap.size + 1, 0, none⟩) (by show w.heap.size + 1 < _; omega)).trans h.fr
theorem ParseAt.fell {w W : World} {s : ByteArray} {T : Array Value} (h : ParseAt w W) (h2 : T[2]? = some (.pointer (some ⟨w.heap.size, 0, none⟩))) (h3 : T[3]? = some (.pointer (some ⟨w.heap.size + 1, 0, none⟩))) (hn : lineOf (wordsOf 32 s) = none) :
    Leaves Tryz.prog Tryz.f34 T (ParsePost w s) [{ target := .fn (.func 75) #[.pointer (some ⟨w.heap.size, 0, none⟩), .pointer (some ⟨w.heap.size + 1, 0, none⟩)], args := #[] }]
      (.panicking [{ v := .iface 136 (.agg #[]), recovered := false }]) W :=
  parse_fell h2 h3 h.ct h.iq h.fr (by omega) h.below (Nat.le_refl _) (Nat.le_succ _) hn
theorem ParseAt.stored {w W : World} (h : ParseAt w W) (cs : List Value) (hl : cs.length = 20) : ∃ V, V = W.setCells w.heap.size 0 cs.toArray.toList ∧ V.cell? ⟨w.heap.size + 1, 0, none⟩ = some (.bool false) ∧ V.frozen? ⟨w.heap.size + 1, 0, none⟩ = false ∧
    V.rangeAt w.heap.size 0 cs ∧ Keep (fun k => k ≠ w.heap.size) W V ∧ Below w.heap.size w V :=
  ⟨_, rfl, (World.cell?_setCells_out w.heap.size cs.toArray.toList 0 W ⟨w.heap.size + 1, 0, none⟩ (fun e _ => absurd e (by show ¬ w.heap.size + 1 = w.heap.size; omega))).trans h.iq, (World.frozen?_setCells _ _ _ _ _).trans h.fr,
    World.rangeAt_setCells_same W w.heap.size 0 cs (by rw [hl]; exact h.ct), keep_setCells w.heap.size (fun h => h rfl) cs 0 W, h.below.trans (Keep.below (keep_setCells w.heap.size (P := fun k => k < w.heap.size) (Nat.lt_irrefl _) cs 0 W))⟩
theorem cmd_one (c : Cmd) (x : Ph) (A : Option Addr) (n : Nat) : (cmdVs c x A n).toArray.all (·.oneCell') = true := all_oneCell_toArray (cs := cmdVs c x A n) (by
  intro v hv
  simp only [cmdVs, List.mem_cons, List.not_mem_nil, or_false] at hv
  rcases hv with rfl | rfl | rfl | rfl | rfl | rfl | rfl | rfl | rfl | rfl | rfl | rfl | rfl | rfl | rfl | rfl | rfl | rfl | rfl | rfl <;> rfl)
theorem parse_ends {w V : World} {s : ByteArray} {T : Array Value} {cs : List Value} {b : Bool} (h2 : T[2]? = some (.pointer (some ⟨w.heap.size, 0, none⟩))) (h3 : T[3]? = some (.pointer (some ⟨w.heap.size + 1, 0, none⟩)))
    (hl : cs.length = 20) (hc : V.cell? ⟨w.heap.size + 1, 0, none⟩ = some (.bool false)) (hr : V.rangeAt w.heap.size 0 cs) (hP : ParsePost w s (.returned (.tuple #[.agg cs.toArray, .bool b])) (V.setCell ⟨w.heap.size + 1, 0, none⟩ (.bool b))) :
    Leaves Tryz.prog Tryz.f34 T (ParsePost w s) [{ target := .fn (.func 75) #[.pointer (some ⟨w.heap.size, 0, none⟩), .pointer (some ⟨w.heap.size + 1, 0, none⟩)], args := #[] }] .returning (V.setCell ⟨w.heap.size + 1, 0, none⟩ (.bool b)) := by
  refine parse_ret h2 h3 (fun j v hv => ?_) hl (World.cell?_setCell_same _ _ _ hc) hP
  rw [World.cell?_setCell_other]
  · exact hr j v hv
  · intro e
    injection e with e1
    omega
/-- the world where the line lies in its block -/
def startW (w : World) (ws : List ByteArray) : World :=
  (((w.alloc (.cells zeroL.toArray 46)).alloc (.cells #[.bool false] 4)).alloc (.cells (ws.map .string).toArray 9)).alloc
    (.cells ((.slice (some ⟨w.heap.size + 1 + 1, 0, none⟩) ws.length ws.length) :: zeroL).toArray 142)
theorem start_at (w : World) (ws : List ByteArray) (hl : ws.length ≤ 9223372036854775807) :
    ParseAt w (startW w ws) ∧ LnIn (fun b => b = w.heap.size + 1 + 1) (w.heap.size + 1 + 1 + 1) (startW w ws) ws zeroVs ∧ (startW w ws).heap.size = w.heap.size + 1 + 1 + 1 + 1 := by
  obtain ⟨o0, e0⟩ : ∃ o0, o0 = Obj.cells zeroL.toArray 46 := ⟨_, rfl⟩
  obtain ⟨o1, e1⟩ : ∃ o1, o1 = Obj.cells #[.bool false] 4 := ⟨_, rfl⟩
  obtain ⟨o2, e2⟩ : ∃ o2, o2 = Obj.cells (ws.map .string).toArray 9 := ⟨_, rfl⟩
  obtain ⟨o3, e3⟩ : ∃ o3, o3 = Obj.cells ((.slice (some ⟨w.heap.size + 1 + 1, 0, none⟩) ws.length ws.length) :: zeroL).toArray 142 := ⟨_, rfl⟩
  have hW : startW w ws = (((w.alloc o0).alloc o1).alloc o2).alloc o3 := by rw [e0, e1, e2, e3]; rfl
  rw [hW]
  have z1 : (w.alloc o0).heap.size = w.heap.size + 1 := by simp
  have z2 : ((w.alloc o0).alloc o1).heap.size = w.heap.size + 1 + 1 := by simp
  have z3 : (((w.alloc o0).alloc o1).alloc o2).heap.size = w.heap.size + 1 + 1 + 1 := by simp
  have z4 : ((((w.alloc o0).alloc o1).alloc o2).alloc o3).heap.size = w.heap.size + 1 + 1 + 1 + 1 := by simp
  have b1 := below_alloc (w.alloc o0) o1
  have b2 := below_alloc ((w.alloc o0).alloc o1) o2
  have b3 := below_alloc (((w.alloc o0).alloc o1).alloc o2) o3
  have h0 : ((((w.alloc o0).alloc o1).alloc o2).alloc o3).heap[w.heap.size]? = some o0 := ((b3.block _ (by omega)).trans (b2.block _ (by omega))).trans ((b1.block _ (by omega)).trans (heap_alloc_new w o0))
  have h1 : ((((w.alloc o0).alloc o1).alloc o2).alloc o3).heap[w.heap.size + 1]? = some o1 := ((b3.block _ (by omega)).trans (b2.block _ (by omega))).trans (by have := heap_alloc_new (w.alloc o0) o1; rwa [z1] at this)
  have h2 : ((((w.alloc o0).alloc o1).alloc o2).alloc o3).heap[w.heap.size + 1 + 1]? = some o2 := (b3.block _ (by omega)).trans (by have := heap_alloc_new ((w.alloc o0).alloc o1) o2; rwa [z2] at this)
  have h3 : ((((w.alloc o0).alloc o1).alloc o2).alloc o3).heap[w.heap.size + 1 + 1 + 1]? = some o3 := by have := heap_alloc_new (((w.alloc o0).alloc o1).alloc o2) o3; rwa [z3] at this
  have hB : Below w.heap.size w ((((w.alloc o0).alloc o1).alloc o2).alloc o3) := (((below_alloc w o0).trans (b1.mono (by omega))).trans (b2.mono (by omega))).trans (b3.mono (by omega))
  generalize ((((w.alloc o0).alloc o1).alloc o2).alloc o3) = W at h0 h1 h2 h3 hB z4 ⊢
  subst e0 e1 e2 e3
  have c0 : ∀ j v, zeroL[j]? = some v → W.cell? ⟨w.heap.size, 0 + j, none⟩ = some v := fun j v hv => by rw [Lib.cell_of_heap h0]; simpa using hv
  refine ⟨⟨hB, by omega, c0, fun j hj => ?_, by rw [Lib.cell_of_heap h1]; rfl, by unfold World.frozen?; rw [h1]; rfl⟩, ⟨⟨⟨_, _, by rw [Lib.cell_of_heap h3]; rfl, .inr ⟨_, 0, rfl, rfl, fun j u hu => by rw [Nat.zero_add, Lib.cell_of_heap h2]; simpa using hu⟩, Nat.le_refl _, hl⟩, by unfold World.frozen?; rw [h3]; rfl, fun b hb => by omega⟩, rfl, fun j u hu => ?_, fun o => by unfold World.frozen?; rw [h3]; rfl⟩, z4⟩
  · have hv : zeroL[j]? = some (zeroL[j]'hj) := List.getElem?_eq_getElem hj
    exact ⟨by rw [c0 j _ hv]; rfl, by unfold World.frozen?; rw [h0]; rfl⟩
  · rw [Lib.cell_of_heap h3, Nat.add_comm 1 j]
    have hu : zeroL[j]? = some u := hu
    simpa using hu

end Go.Proofs.YtjjaojnglnpgaaaGreatDoor
