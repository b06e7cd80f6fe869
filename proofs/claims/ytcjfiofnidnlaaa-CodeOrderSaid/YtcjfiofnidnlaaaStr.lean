/- Laws on 'string(b)' and '[]byte(s)' at slices that read. -/
import Derived.Test.YtcjfiofnidnlaaaAppS
import Derived.Laws.IdiomStrings
import Derived.Laws.BytesArg
import Derived.Lib.ConvBytes
namespace Go.Proofs.Ytcjfiofnidnlaaa
open Go.RowKit
set_option linter.unusedVariables false

def strN (l : List Nat) : ByteArray := ⟨(l.map UInt8.ofNat).toArray⟩
/-- a string's bytes as numbers -/
def bytesN (s : ByteArray) : List Nat := s.data.toList.map UInt8.toNat
theorem bytesN_lt (s : ByteArray) : ∀ x ∈ bytesN s, x < 256 := by
  intro x hx; simp only [bytesN, List.mem_map] at hx; obtain ⟨b, _, rfl⟩ := hx; exact b.toNat_lt
theorem bytesN_length (s : ByteArray) : (bytesN s).length = s.size := by
  show (s.data.toList.map UInt8.toNat).length = s.data.size
  rw [List.length_map, Array.length_toList]
theorem strN_bytesN (s : ByteArray) : strN (bytesN s) = s := by
  unfold strN bytesN
  have e : (UInt8.ofNat ∘ UInt8.toNat) = id := by funext x; simp
  rw [List.map_map, e, List.map_id, Array.toArray_toList]
theorem bytesN_strN (l : List Nat) (h : ∀ x ∈ l, x < 256) : bytesN (strN l) = l := by
  unfold strN bytesN
  simp only [List.toList_toArray, List.map_map]
  conv => rhs; rw [← List.map_id l]
  apply List.map_congr_left
  intro x hx
  have := h x hx
  simp [Function.comp_def]; omega
theorem strN_inj {a b : List Nat} (ha : ∀ x ∈ a, x < 256) (hb : ∀ x ∈ b, x < 256) (h : strN a = strN b) : a = b := by
  rw [← bytesN_strN a ha, ← bytesN_strN b hb, h]
theorem byteCells_u8s (s : ByteArray) : byteCells s = u8s (bytesN s) := by simp [byteCells, u8s, bytesN, Function.comp_def]
theorem strN_size (l : List Nat) : (strN l).size = l.length := by
  show ((l.map UInt8.ofNat).toArray).size = l.length
  simp

theorem run_str_rd {P : Program} {w : World} {a : Option Addr} {n c : Nat} {l : List Nat} (hr : Rd w a n c (u8s l)) (hb : ∀ x ∈ l, x < 256) (src dst e : TypeId) (hs : P.underlying src = some (.slice e)) (he : P.underlying e = some (.int .u8)) (hd : P.underlying dst = some .string) :
    (convert src dst (.slice a n c)).run P w = .ok (.string (strN l)) w := by
  have hn := hr.1
  rw [u8s_length] at hn
  cases a with
  | none =>
    obtain ⟨rfl, rfl⟩ := hr.nil0 rfl
    obtain rfl : l = [] := List.eq_nil_of_length_eq_zero hn
    exact run_convert_bytes_nil w src e hs he 0 0 dst hd
  | some ad =>
    have hl : n = (l.map UInt8.ofNat).length := by simp [hn]
    rw [hl]
    refine run_convert_bytes_back w src dst e ad c (l.map UInt8.ofNat) hs he hd fun j hj => ?_
    have hj' : j < l.length := by simpa using hj
    rw [hr.src ad rfl j (.int .u8 ((l[j] : Nat) : Int)) (u8s_get l j hj')]
    have := hb l[j] (List.getElem_mem _)
    simp; omega

theorem wpList_conv_str {P : Program} {w : World} {ops : Array Oper} {rest : List Oper} {o : Oper} {a : Act} {Q : Exit → Act → World → Prop} (hgd : o.guard = none) (x : Operand) (src dst e : TypeId)
    (ho : o.op = .convert src dst x) (hs : P.underlying src = some (.slice e)) (he : P.underlying e = some (.int .u8)) (hd : P.underlying dst = some .string)
    (ao : Option Addr) (m c : Nat) (l : List Nat) (hx : a.eval x = .slice ao m c) (hr : Rd w ao m c (u8s l)) (hb : ∀ x ∈ l, x < 256)
    (h : wpList P ops Q rest (a.put o.dst (.string (strN l))) w) : wpList P ops Q (o :: rest) a w := by
  refine wpList_plain hgd fun K hK => ?_
  have hrun := run_str_rd (P := P) hr hb src dst e hs he hd
  unfold Oper.wp
  simp [execOp, ho, hx, hrun, Result.andThen]
  exact hK _ _ h

theorem wpList_conv_bytes {P : Program} {w : World} {ops : Array Oper} {rest : List Oper} {o : Oper} {a : Act} {Q : Exit → Act → World → Prop} (hgd : o.guard = none) (x : Operand) (src dst e : TypeId)
    (ho : o.op = .convert src dst x) (hs : P.underlying src = some .string) (hd : P.underlying dst = some (.slice e)) (he : P.underlying e = some (.int .u8))
    (s : ByteArray) (hx : a.eval x = .string s) (hsz : s.size ≤ 1000000000000)
    (h : ∀ c w', Rd w' (some ⟨w.heap.size, 0, none⟩) s.size c (u8s (bytesN s)) → Below w.heap.size w w' → wpList P ops Q rest (a.put o.dst (.slice (some ⟨w.heap.size, 0, none⟩) s.size c)) w') : wpList P ops Q (o :: rest) a w := by
  refine wpList_plain hgd fun K hK => ?_
  have hrun := Lib.run_convert_string_bytes (P := P) w src dst e s hs hd he
  have hge := grownCap_ge w s.size 0 e
  have hle := grownCap_le_maxLen w s.size 0 e (by unfold maxLen; omega)
  have hrd : Rd (Lib.bytesWorld w e s) (some ⟨w.heap.size, 0, none⟩) s.size (grownCap w s.size 0 e) (u8s (bytesN s)) := by
    refine ⟨by rw [u8s_length, bytesN_length], hge, hle, by simp, fun i hi => ⟨w.heap.size, 0, rfl, by rw [Lib.bytesWorld_size]; omega, ?_⟩⟩
    rw [Nat.zero_add, Lib.bytesWorld_cell w e s i hi]
    have hi' : i < s.data.toList.length := by rw [Array.length_toList]; exact hi
    rw [u8s_get _ _ (by rw [bytesN_length]; exact hi)]
    have e1 : (bytesN s)[i]'(by rw [bytesN_length]; exact hi) = (s.data.toList[i]).toNat := by unfold bytesN; rw [List.getElem_map]
    have e2 : s.data.toList.getD i 0 = s.data.toList[i] := by rw [List.getD_eq_getElem?_getD, List.getElem?_eq_getElem hi']; rfl
    rw [e1, e2]
  have hbel : Below w.heap.size w (Lib.bytesWorld w e s) := ⟨rfl, rfl, rfl, by rw [Lib.bytesWorld_size]; omega, fun k hk => Lib.bytesWorld_at_old w e s k hk⟩
  unfold Oper.wp
  simp [execOp, ho, hx, hrun, Result.andThen]
  exact hK _ _ (h _ _ hrd hbel)
end Go.Proofs.Ytcjfiofnidnlaaa
