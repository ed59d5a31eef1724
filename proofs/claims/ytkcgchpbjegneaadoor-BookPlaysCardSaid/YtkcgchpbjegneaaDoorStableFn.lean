/-
  The walk of sort.stable_func: sorted, like ones as they lay.
-/
import Derived.WalkKit
import Derived.WalkLawsBesides
import Derived.WalkSpells
import Derived.Deep.LoopGhost
import Derived.Deep.DeepCutAuto
import Derived.Deep.CutBlock
import Derived.Shelf.Abstract
import Derived.Laws.EntriesVeiled
import Derived.Test.YtkcgchpbjegneaaDoorSymMerge
namespace Go.Proofs.YtkcgchpbjegneaaDoor
open Go.RowKit
set_option linter.unusedVariables false

section
variable {α : Type} {g : Nat} {lb : Array Value} {sf : Nat} {sb : Array Value} {blk n : Nat} {r : α → Int} {St : World → List (α × Nat) → Prop}
def Rise (T : List (α × Nat)) : Prop := T.Pairwise fun x y => x.2 < y.2
theorem Rise.tag {X Y : List (α × Nat)} (h : Rise (X ++ Y)) : TagL X Y := fun x hx y hy => (List.pairwise_append.1 h).2.2 x hx y hy
/-- behind the first blocks -/
structure Blks (r : α → Int) (T0 : List (α × Nat)) (a : Nat) (P : List (α × Nat)) : Prop where
  len : P.length = a
  le : a ≤ T0.length
  perm : P.Perm (T0.take a)
  ahead : Ahead r 20 P
theorem Blks.step {T0 P S : List (α × Nat)} {a : Nat} (h : Blks r T0 a P) (hT : Rise T0) (ha : a + 20 ≤ T0.length) (hp : S.Perm ((T0.drop a).take 20)) (hs : SortT r S) : Blks r T0 (a + 20) (P ++ S) := by
  have hl : S.length = 20 := by have := hp.length_eq; simp at this; omega
  have e : T0.take (a + 20) = T0.take a ++ (T0.drop a).take 20 := by rw [List.take_add]
  refine ⟨by have := h.len; simp; omega, ha, by rw [e]; exact h.perm.append hp, h.ahead.snoc hl hs ?_⟩
  have hr : Rise (T0.take a ++ T0.drop a) := by rw [List.take_append_drop]; exact hT
  exact TagL.perm (X := T0.take a) (Y := (T0.drop a).take 20) (fun x hx y hy => hr.tag x hx y (List.mem_of_mem_take hy)) h.perm hp
theorem Blks.ends {T0 P S : List (α × Nat)} {a : Nat} (h : Blks r T0 a P) (hT : Rise T0) (ha : T0.length < a + 20) (hp : S.Perm (T0.drop a)) (hs : SortT r S) : (P ++ S).Perm T0 ∧ Chk r 20 (P ++ S) := by
  have hl : S.length ≤ 20 := by have := hp.length_eq; simp at this; omega
  refine ⟨?_, h.ahead.ends hl hs ?_⟩
  · have := h.perm.append hp
    rwa [List.take_append_drop] at this
  · have hr : Rise (T0.take a ++ T0.drop a) := by rw [List.take_append_drop]; exact hT
    exact TagL.perm hr.tag h.perm hp
/-- behind the first merges -/
structure Mgs (r : α → Int) (T0 : List (α × Nat)) (bs a : Nat) (P Q : List (α × Nat)) : Prop where
  len : P.length = a
  perm : (P ++ Q).Perm T0
  ahead : Ahead r (2 * bs) P
  chk : Chk r bs Q
  tag : TagL P Q

set_option maxRecDepth 100000 in
set_option maxHeartbeats 2000000 in
theorem stable_any (E : SortEnv g lb sf sb blk n (fun x : α × Nat => r x.1) St) (hn2 : n ≤ 1000000) (w : World) (T0 : List (α × Nat)) (hT : Rise T0) (h : St w T0) (hn : T0.length = n) :
    Calls Tryd.prog 58 #[lsV g lb sf sb, .int .i64 n] w fun e w' => e = .returned (.tuple #[]) ∧ (∃ T, T.Perm T0 ∧ SortT r T ∧ St w' T) ∧ Keeps (fun k => k = blk) w w' := by
  have hlt := E.lt _ _ h
  have eg := E.eg
  have hS0 := E.start h
  have HE := hid E
  have HS0 := hid hS0
  have HL := hid hn
  have HT := hid hT
  have HN2 := hid hn2
  have HLt := hid hlt
  have HSy := hid (symMerge_any E hn2)
  clear E h hS0 hn hlt hT
  unfold lsV
  go_enter Tryd.func58, Tryd.ntmps58
  go_wp2_with fail
  go_loopg [5, 6] n (fun gg s5 s6 wx => ∃ (a : Nat) (P : List (α × Nat)), gg = n - a ∧ s5 = .int .i64 a ∧ s6 = .int .i64 ((a : Int) + 20) ∧ Hid (Blks r T0 a P) ∧ SortAt St blk w wx (lsBox g lb sf sb) (P ++ T0.drop a))
  case atStart => exact ⟨0, [], rfl, rfl, by simp, hid ⟨rfl, Nat.zero_le _, by simp, ahead_nil 20⟩, by simpa using HS0.out⟩
  case round =>
    obtain ⟨a, P, rfl, rfl, rfl, HB, hS⟩ := hrel
    have ha : a ≤ n := by have := HB.out.le; have := HL.out; omega
    obtain ⟨c0, c1⟩ := hS.cells
    by_cases hlt : a + 20 ≤ n
    · have hltz : (a : Int) + 20 ≤ (n : Int) := by omega
      have ed : T0.drop a = (T0.drop a).take 20 ++ T0.drop (a + 20) := by
        have := (List.take_append_drop 20 (T0.drop a)).symm
        rwa [List.drop_drop] at this
      have hst := hS.st
      rw [ed] at hst
      have hc := insertion_any HE.out wr P ((T0.drop a).take 20) (T0.drop (a + 20)) a (a + 20) HB.out.len (by have := HB.out.len; have := HL.out; simp; omega) ((List.Pairwise.sublist (List.drop_sublist a T0) HT.out).sublist (List.take_sublist _ _)) hst (by have := HB.out.len; have := HL.out; simp; omega) HN2.out
      rw [show (((a + 20 : Nat) : Int)) = (a : Int) + 20 by omega] at hc
      have HC := hid hc
      have HS := hid hS
      clear hc hS hst ed
      unfold lsV at HC
      go_wp2_with fail
      refine HC.out.mono ?_
      rintro e w2 ⟨rfl, ⟨S, hp, hs, hst⟩, hk⟩
      have HP := hid hp
      have HSs := hid hs
      have HSt := hid hst
      have HK := hid hk
      clear hp hs hst hk
      go_wp2_with fail
      go_roundg (n - (a + 20))
      case measure => omega
      case rel => exact ⟨a + 20, P ++ S, rfl, by go_num, by rw [show (((a + 20 : Nat) : Int)) = (a : Int) + 20 by omega], hid (HB.out.step HT.out (by have := HL.out; omega) HP.out HSs.out), HS.out.step HLt.out (by have h := HSt.out; simpa only [List.append_assoc] using h) HK.out⟩
    · have hltz : ¬ (a : Int) + 20 ≤ (n : Int) := by omega
      have hc := insertion_any HE.out wr P (T0.drop a) [] a n HB.out.len (by have := HB.out.len; have := HB.out.le; have := HL.out; simp; omega) (List.Pairwise.sublist (List.drop_sublist a T0) HT.out) (by simpa using hS.st) (by have := HB.out.len; have := HB.out.le; have := HL.out; simp; omega) HN2.out
      have HC := hid hc
      have HS := hid hS
      have HLa := hid hlt
      clear hc hS hlt
      unfold lsV at HC
      go_wp2_with fail
      refine HC.out.mono ?_
      rintro e w2 ⟨rfl, ⟨S, hp, hs, hst⟩, hk⟩
      obtain ⟨hp0, hc0⟩ := HB.out.ends HT.out (by have := HL.out; have := HLa.out; omega) hp hs
      have HS2 := hid (HS.out.step (l' := P ++ S) HLt.out (by simpa using hst) hk)
      have HP0 := hid hp0
      have HC0 := hid hc0
      clear hp hs hst hk hp0 hc0 c0 c1
      go_wp2_with fail
      go_loopg [4] (n - 20) (fun gg s4 wx => ∃ (bs : Nat) (T : List (α × Nat)), 20 ≤ bs ∧ bs ≤ 2000000 ∧ gg = n - bs ∧ s4 = .int .i64 bs ∧ Hid (T.Perm T0 ∧ Chk r bs T) ∧ SortAt St blk w wx (lsBox g lb sf sb) T)
      case atStart => exact ⟨20, P ++ S, Nat.le_refl _, by omega, rfl, rfl, hid ⟨HP0.out, HC0.out⟩, HS2.out⟩
      case round =>
        obtain ⟨bs, T, hbs1, hbs2, rfl, rfl, HPC, hS⟩ := hrel
        have hTl : T.length = n := by have := HPC.out.1.length_eq; have := HL.out; omega
        have HTl := hid hTl
        clear hTl
        by_cases hlt : bs < n
        · have hltz : (bs : Int) < (n : Int) := by omega
          have HS3 := hid hS
          have HLb := hid hlt
          obtain ⟨wo, rfl⟩ : ∃ wo : World, wo = wr := ⟨_, rfl⟩
          have hbs3 : bs ≤ 1000000 := by omega
          clear hS hlt
          go_wp2_with fail
          go_loopg [5, 6] (n - 0) (fun gg s5 s6 wx => ∃ (a : Nat) (P Q : List (α × Nat)), a ≤ n ∧ gg = n - a ∧ s5 = .int .i64 a ∧ s6 = .int .i64 ((a : Int) + 2 * (bs : Int)) ∧ Hid (Mgs r T0 bs a P Q) ∧ SortAt St blk w wx (lsBox g lb sf sb) (P ++ Q))
          case atStart => exact ⟨0, [], T, Nat.zero_le _, rfl, rfl, by rw [show (((0 : Nat) : Int)) + 2 * (bs : Int) = 2 * (bs : Int) by omega], hid ⟨rfl, HPC.out.1, ahead_nil _, HPC.out.2, fun x hx => by cases hx⟩, HS3.out⟩
          case round =>
            obtain ⟨a, P, Q, han, rfl, rfl, rfl, HM, hS⟩ := hrel
            obtain ⟨c0, c1⟩ := hS.cells
            have hln : P.length + Q.length = n := by have h1 := HM.out.perm.length_eq; have h2 := HL.out; rw [List.length_append] at h1; omega
            have HLn := hid hln
            clear hln
            by_cases hlt : a + 2 * bs ≤ n
            · have hltz2 : (a : Int) + 2 * (bs : Int) ≤ (n : Int) := by omega
              obtain ⟨L, R, Q', hQ, hl1, hl2, hmr, htg, hck⟩ := HM.out.chk.two (by have := HM.out.len; have := HLn.out; omega)
              have hl3 : R.length = bs := by have := HM.out.len; have := HLn.out; omega
              have hst := hS.st
              rw [hQ] at hst
              have hc := HSy.out (L.length + R.length) wr P L R Q' a (a + bs) (a + 2 * bs) (Nat.le_refl _) HM.out.len (by omega) (by omega) (by omega) (by omega) hmr hst (by rw [← hQ, List.length_append]; exact HLn.out)
              rw [show (((a + bs : Nat) : Int)) = (a : Int) + (bs : Int) by omega, show (((a + 2 * bs : Nat) : Int)) = (a : Int) + 2 * (bs : Int) by omega] at hc
              have hstep : ∀ S, S.Perm (L ++ R) → SortT r S → Mgs r T0 bs (a + 2 * bs) (P ++ S) Q' := fun S hp hs => by
                have h0 := HM.out.tag
                have h1 := HM.out.perm
                have h2 := HM.out.len
                rw [hQ] at h0 h1
                refine ⟨by have := hp.length_eq; simp at this ⊢; omega, ?_, HM.out.ahead.snoc (by have := hp.length_eq; simp at this; omega) hs (TagL.perm (X := P) (Y := L ++ R) (fun x hx y hy => h0 x hx y (by rw [← List.append_assoc]; exact List.mem_append_left _ hy)) (List.Perm.refl _) hp), hck, fun x hx y hy => ?_⟩
                · refine List.Perm.trans ?_ h1
                  rw [List.append_assoc]
                  refine List.Perm.append_left _ ?_
                  rw [← List.append_assoc]
                  exact List.Perm.append_right _ hp
                · rcases List.mem_append.1 hx with hx | hx
                  · exact h0 x hx y (by simp [hy])
                  · exact htg x (hp.mem_iff.1 hx) y hy
              have HStp := hid hstep
              have HC := hid hc
              have HS := hid hS
              clear hc hS hst hstep hQ hl1 hl2 hl3 hmr htg hck
              unfold lsV at HC
              go_wp2_with fail
              refine HC.out.mono ?_
              rintro e w2 ⟨rfl, ⟨S, hp, hs, hst⟩, hk⟩
              have HM2 := hid (HStp.out S hp hs)
              have HSt := hid hst
              have HK := hid hk
              clear hp hs hst hk
              go_wp2_with fail
              go_roundg (n - (a + 2 * bs))
              case measure => omega
              case rel => exact ⟨a + 2 * bs, P ++ S, Q', hlt, rfl, by rw [show (((a + 2 * bs : Nat) : Int)) = (a : Int) + 2 * (bs : Int) by omega], by rw [show (((a + 2 * bs : Nat) : Int)) = (a : Int) + 2 * (bs : Int) by omega], HM2, HS.out.step HLt.out (by have h := HSt.out; simpa only [List.append_assoc] using h) HK.out⟩
            · have hltz2 : ¬ (a : Int) + 2 * (bs : Int) ≤ (n : Int) := by omega
              by_cases hm : a + bs < n
              · have hmz : (a : Int) + (bs : Int) < (n : Int) := by omega
                obtain ⟨L, R, Q', hQ, hl1, hl2, hmr, htg, hck⟩ := HM.out.chk.two (by have := HM.out.len; have := HLn.out; omega)
                have hl3 : a + bs + R.length = n := by have := HM.out.len; have := HLn.out; omega
                have hQ0 : Q' = [] := List.eq_nil_of_length_eq_zero (by have h := congrArg List.length hQ; have := HM.out.len; have := HLn.out; simp at h; omega)
                subst hQ0
                have hst := hS.st
                rw [hQ] at hst
                have hc := HSy.out (L.length + R.length) wr P L R [] a (a + bs) n (Nat.le_refl _) HM.out.len (by omega) hl3 (by omega) (by omega) hmr hst (by rw [← hQ, List.length_append]; exact HLn.out)
                rw [show (((a + bs : Nat) : Int)) = (a : Int) + (bs : Int) by omega] at hc
                have hstep : ∀ S, S.Perm (L ++ R) → SortT r S → (P ++ S).Perm T0 ∧ Chk r (2 * bs) (P ++ S) := fun S hp hs => by
                  have h0 := HM.out.tag
                  have h1 := HM.out.perm
                  have h2 := HM.out.len
                  have h3 := HLn.out
                  rw [hQ, List.append_nil] at h0 h1
                  exact ⟨(List.Perm.append_left _ hp).trans h1, HM.out.ahead.ends (by have := hp.length_eq; simp at this; omega) hs (TagL.perm h0 (List.Perm.refl _) hp)⟩
                have HStp := hid hstep
                have HC := hid hc
                have HS := hid hS
                clear hc hS hst hstep hQ hl1 hl2 hl3 hmr htg hck
                unfold lsV at HC
                go_wp2_with fail
                refine HC.out.mono ?_
                rintro e w2 ⟨rfl, ⟨S, hp, hs, hst⟩, hk⟩
                have HM2 := hid (HStp.out S hp hs)
                have HSt := hid hst
                have HK := hid hk
                clear hp hs hst hk
                go_wp2_with fail
                go_roundg (n - 2 * bs)
                case measure => have := HLb.out; omega
                case rel => exact ⟨2 * bs, P ++ S, by omega, by omega, rfl, by rw [show (((2 * bs : Nat) : Int)) = (bs : Int) * 2 by omega], HM2, HS.out.step HLt.out (by have h := HSt.out; simpa only [List.append_nil] using h) HK.out⟩
              · have hmz : ¬ (a : Int) + (bs : Int) < (n : Int) := by omega
                have hstep : (P ++ Q).Perm T0 ∧ Chk r (2 * bs) (P ++ Q) := by
                  have h2 := HM.out.len
                  have h3 := HLn.out
                  exact ⟨HM.out.perm, HM.out.ahead.ends (by omega) (HM.out.chk.short (by omega)) HM.out.tag⟩
                have HStp := hid hstep
                have HS := hid hS
                clear hstep hS
                go_wp2_with fail
                go_roundg (n - 2 * bs)
                case measure => have := HLb.out; omega
                case rel => exact ⟨2 * bs, P ++ Q, by omega, by omega, rfl, by rw [show (((2 * bs : Nat) : Int)) = (bs : Int) * 2 by omega], HStp, HS.out⟩
        · have hltz : ¬ (bs : Int) < (n : Int) := by omega
          have HS := hid hS
          have HLb := hid hlt
          clear hS hlt
          go_wp2_with fail
          go_end0
          exact ⟨rfl, ⟨T, HPC.out.1, HPC.out.2.short (by have := HTl.out; have := HLb.out; omega), HS.out.st⟩, HS.out.keep⟩
end
end Go.Proofs.YtkcgchpbjegneaaDoor
