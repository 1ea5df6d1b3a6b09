import Derived.Test.YtcbakmojhicahaaProg
import Derived.Below
import Derived.Deep.Draws
import Derived.Deep.AppendLies
import Derived.Maps.AppendAt
import Derived.OwnWalk
import Derived.Laws.BytesArg
import Derived.Laws.MakeOwn
import Derived.Laws.OwnMore
import Derived.Deep.OwnRows
import Derived.Tactics
import Derived.Lib.ConvBytes
import Derived.Laws.Slices
import Derived.WalkKit
import Derived.KernelRfl
import Derived.RowKit3
import Derived.Deep.LoopGhost
import Derived.Deep.QuietTactic
import Derived.BigQuiet
import Derived.WideLaws
import Derived.Deep.DeepCutAuto
import Derived.Deep.CutBlock
import Derived.Deep.RegionHeld3
import Derived.Laws.Rows
import Derived.Lib.AppendStr
import Derived.ArgAppend
import Derived.Laws.IdiomCopy
import Derived.OrdersHeld
import Derived.Laws.BitsLemmas
import Derived.RowKit
import Derived.Lib.Hide
import Derived.Laws.CopyOwn
import Derived.Test.YtcbakmojhicahaaWWords
import Derived.Test.YtcbakmojhicahaaWLast
import Derived.Test.YtcbakmojhicahaaWTab
import Derived.Test.YtcbakmojhicahaaWFour
import Derived.Test.YtcbakmojhicahaaWQPut
import Derived.Test.YtcbakmojhicahaaWApart
import Derived.Test.YtcbakmojhicahaaWArr
import Derived.Test.YtcbakmojhicahaaWZeros
import Derived.Test.YtcbakmojhicahaaWFoot
import Derived.Test.YtcbakmojhicahaaWKept
import Derived.Test.YtcbakmojhicahaaWShare
import Derived.Test.YtcbakmojhicahaaWN
import Derived.Test.YtcbakmojhicahaaWFootNe
import Derived.Test.YtcbakmojhicahaaWAt
import Derived.Test.YtcbakmojhicahaaWEqStruct
import Derived.Test.YtcbakmojhicahaaWRepsOne
import Derived.Test.YtcbakmojhicahaaWInv
import Derived.Test.YtcbakmojhicahaaWInvWords
import Derived.Test.YtcbakmojhicahaaWGuard
import Derived.Test.YtcbakmojhicahaaWNEv
import Derived.Test.YtcbakmojhicahaaWMore
import Derived.Test.YtcbakmojhicahaaShelf
import Derived.Laws.Strings
namespace Go.Proofs.Ytcbakmojhicahaa.Hand
open Go.RowKit Go.Proofs.YtcbakmojhicahaaW.PrintWords Go.Proofs.YtcbakmojhicahaaW.PrintLast Go.Proofs.YtcbakmojhicahaaW.PrintMore
set_option linter.unusedVariables false
set_option linter.unusedSimpArgs false

theorem wrap_in {x : Int} (h0 : -9223372036854775808 ≤ x) (h1 : x < 9223372036854775808) : wrap64 x = x := by
  unfold wrap64
  omega
theorem drawn_trans {a b c : World} (h : Drawn0 a b) (k : Drawn0 b c) : Drawn0 a c := by
  obtain ⟨n, rfl⟩ := h
  obtain ⟨m, rfl⟩ := k
  exact ⟨⟨n + m, World.drewN_drewN ..⟩⟩
/-! ### word.of -/
def ofL (p : Int → Bool) (l : List UInt8) : Bool := l.all (fun b => p (b.toNat : Int)) && decide (0 < l.length ∧ l.length ≤ 32)
theorem bt_data (s : ByteArray) (i : Nat) (h : i < s.size) : bt s (i : Int) = ((s.data.toList[i]'(by rw [Array.length_toList]; exact h)).toNat : Int) := by
  unfold bt
  rw [dif_pos (by simpa using h)]
  rfl
set_option maxHeartbeats 8000000 in
set_option maxRecDepth 100000 in
theorem word_of_walk (g : Nat) (eg : ∀ args w, (callFunc g args).run Try.prog w = .ok (.enter g args) w) (p : Int → Bool) (s : ByteArray) (w : World)
    (hg : ∀ (W : World) (c : Int), 0 ≤ c → c ≤ 255 → Calls Try.prog g #[.int .u8 c] W fun e w' => e = .returned (.bool (p c)) ∧ Drawn0 W w') (hs : s.size ≤ 9223372036854775807) :
    Calls Try.prog 81 #[.string s, .func (.func g) #[] #[]] w fun e w' => e = .returned (.bool (ofL p s.data.toList)) ∧ Drawn0 w w' := by
  have HG := Aside0.mk hg
  have HS := Aside0.mk hs
  clear hg hs
  go_enter Try.func81, Try.ntmps81
  go_wp2_with fail
  go_loopg [8] s.size (fun kq v8 wr => ∃ i : Nat, v8 = .int .i64 (i : Int) ∧ i + kq = s.size ∧ Aside0 ((s.data.toList.take i).all (fun b => p (b.toNat : Int)) = true) ∧ Drawn0 w wr)
  case atStart => exact ⟨0, rfl, by omega, ⟨rfl⟩, Drawn0.refl _⟩
  case round =>
    obtain ⟨i, rfl, hk, HA, HD⟩ := hrel
    by_cases hi : i < s.size
    · have hi1 : decide ((i : Int) < (s.size : Int)) = true := decide_eq_true (by omega)
      have hi2 : decide (i < s.size) = true := decide_eq_true hi
      have hi0 : decide (0 ≤ (i : Int)) = true := decide_eq_true (by omega)
      have he : wrap64 ((i : Int) + 1) = ((i + 1 : Nat) : Int) := by have := HS.out; rw [wrap_in (by omega) (by omega)]; push_cast; rfl
      have hbt := bt_at s (i : Int)
      have hi3 : (0 ≤ (i : Int)) = True := eq_true (by omega)
      have hi4 : ((i : Int) < (s.size : Int)) = True := eq_true (by omega)
      go_wp2_with fail
      have hc : (s[i].toNat : Int) ≤ 255 := by have := s[i].toNat_lt; omega
      refine (HG.out wr _ (by omega) hc).mono ?_
      rintro e w2 ⟨rfl, hd⟩
      have HD2 : Drawn0 w w2 := drawn_trans HD hd
      clear hd HD
      generalize hb : p (s[i].toNat : Int) = b
      have hget : s.data.toList[i]? = some s[i] := by
        rw [List.getElem?_eq_getElem (by rw [Array.length_toList]; exact hi), Array.getElem_toList]
        rfl
      cases b with
      | true =>
        have HA2 : Aside0 ((s.data.toList.take (i + 1)).all (fun b => p (b.toNat : Int)) = true) := ⟨by
          rw [List.take_add_one, hget, List.all_append, HA.out]
          simp [hb]⟩
        go_wp2
        go_roundg (gk - 1)
        case measure => omega
        case rel => exact ⟨i + 1, by rw [he], by omega, HA2, HD2⟩
      | false =>
        have HN : Aside0 (ofL p s.data.toList = false) := ⟨by
          unfold ofL
          rw [show s.data.toList.all (fun b => p (b.toNat : Int)) = false from by
            rw [Bool.eq_false_iff]
            intro h
            have := List.all_eq_true.1 h s[i] (List.mem_of_getElem? hget)
            rw [hb] at this
            cases this]
          rfl⟩
        clear hget
        go_wp2
        go_ret
        exact ⟨by rw [HN.out]; rfl, HD2⟩
    · obtain rfl : i = s.size := by omega
      have hi1 : decide ((s.size : Int) < (s.size : Int)) = false := decide_eq_false (by omega)
      have hall : s.data.toList.all (fun b => p (b.toNat : Int)) = true := by
        have := HA.out
        rwa [List.take_of_length_le (by rw [Array.length_toList]; exact Nat.le_refl _)] at this
      have HV : Aside0 (ofL p s.data.toList = (!s.toList.isEmpty && decide ((s.size : Int) ≤ 32))) := ⟨by
        unfold ofL
        rw [hall, ByteArray.toList_eq, Bool.true_and, Array.length_toList, Bool.decide_and]
        have e1 : decide (0 < s.data.size) = !s.data.toList.isEmpty := by
          cases h : s.data.toList with
          | nil => have : s.data.size = 0 := by rw [← Array.length_toList, h]; rfl
                   rw [this]; rfl
          | cons x l => have : s.data.size = l.length + 1 := by rw [← Array.length_toList, h]; rfl
                        rw [this]; simp
        rw [e1]
        congr 1
        show decide (s.size ≤ 32) = decide ((s.size : Int) ≤ 32)
        simp only [decide_eq_decide]
        omega⟩
      clear hi hall
      go_wp2
      · rename_i h0
        go_ret
        exact ⟨by rw [HV.out, h0]; rfl, HD⟩
      · go_ret
        exact ⟨by rw [HV.out]; rfl, HD⟩
end Go.Proofs.Ytcbakmojhicahaa.Hand
