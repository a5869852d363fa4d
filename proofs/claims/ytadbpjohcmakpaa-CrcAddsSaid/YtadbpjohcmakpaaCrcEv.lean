/- What the check's functions compute, the program's and the reference's: the same fold over a text's bytes. No memory and no program here: the printed functions alone. -/
import Derived.Test.YtadbpjohcmakpaaPCx2
import Derived.Test.YtadbpjohcmakpaaPCx3
import Derived.Laws.BitsLemmas
namespace Go.Proofs.Ytadbpjohcmakpaa.CrcEv
open Go.RowKit Go.Proofs.Ytadbpjohcmakpaa.PC Go.Proofs.YtadbpjohcmakpaaW.PrintWords Go.Proofs.YtadbpjohcmakpaaW.PrintLast Go.Proofs.YtadbpjohcmakpaaW.PrintMore

/-! ### numbers -/
theorem bx {a b : Nat} (ha : a < 4294967296) (hb : b < 4294967296) : Go.bits .xor .u32 (a : Int) (b : Int) = ((a ^^^ b : Nat) : Int) := by
  have h1 : a % 2 ^ 32 = a := Nat.mod_eq_of_lt ha
  have h2 : b % 2 ^ 32 = b := Nat.mod_eq_of_lt hb
  have h3 : a ^^^ b < 2 ^ 32 := Nat.xor_lt_two_pow ha hb
  show IntKind.u32.wrap ((BitVec.ofInt 32 a ^^^ BitVec.ofInt 32 b).toNat : Int) = _
  rw [IntKind.wrap_u32, BitVec.ofInt_natCast, BitVec.ofInt_natCast, BitVec.toNat_xor, BitVec.toNat_ofNat, BitVec.toNat_ofNat, h1, h2]
  omega
theorem ba {a : Nat} (ha : a < 4294967296) : Go.bits .and .u32 (a : Int) 1 = ((a % 2 : Nat) : Int) := by
  have h1 : a % 2 ^ 32 = a := Nat.mod_eq_of_lt ha
  show IntKind.u32.wrap ((BitVec.ofInt 32 a &&& BitVec.ofInt 32 1).toNat : Int) = _
  rw [IntKind.wrap_u32, BitVec.ofInt_natCast, BitVec.toNat_and, BitVec.toNat_ofNat, h1]
  have : (BitVec.ofInt 32 1).toNat = 1 := rfl
  rw [this, Nat.and_one_is_mod]
  omega
theorem w64 {i : Int} (h0 : -9223372036854775808 ≤ i) (h : i ≤ 9223372036854775807) : wrap64 i = i := by
  unfold wrap64
  omega
def M : Nat := 4294967295
theorem maxM : IntKind.u32.max = ((M : Nat) : Int) := by rfl

/-! ### the fold -/
def step1 (r : Nat) : Nat := if r % 2 = 1 then (r / 2) ^^^ 3988292384 else r / 2
def steps : Nat → Nat → Nat
  | 0, r => r
  | n + 1, r => steps n (step1 r)
def addB (r : Nat) (c : UInt8) : Nat := steps 8 (r ^^^ c.toNat)
def crcN (x : Nat) (l : List UInt8) : Nat := M ^^^ l.foldl addB (M ^^^ x)
theorem step1_lt {r : Nat} (h : r < 4294967296) : step1 r < 4294967296 := by
  unfold step1
  split
  · exact Nat.xor_lt_two_pow (n := 32) (show r / 2 < 2 ^ 32 by omega) (by decide)
  · omega
theorem steps_lt (n : Nat) : ∀ {r : Nat}, r < 4294967296 → steps n r < 4294967296 := by
  induction n with
  | zero => exact fun h => h
  | succ n ih => exact fun h => ih (step1_lt h)
theorem addB_lt {r : Nat} (h : r < 4294967296) (c : UInt8) : addB r c < 4294967296 :=
  steps_lt 8 (Nat.xor_lt_two_pow (n := 32) h (Nat.lt_trans c.toNat_lt (by decide)))
theorem fold_lt (l : List UInt8) : ∀ {r : Nat}, r < 4294967296 → l.foldl addB r < 4294967296 := by
  induction l with
  | nil => exact fun h => h
  | cons c l ih => exact fun h => ih (addB_lt h c)
theorem M_lt {x : Nat} (h : x < 4294967296) : M ^^^ x < 4294967296 := Nat.xor_lt_two_pow (n := 32) (by decide) h
theorem M_M (x : Nat) : M ^^^ (M ^^^ x) = x := by rw [← Nat.xor_assoc, Nat.xor_self, Nat.zero_xor]
theorem crcN_lt {x : Nat} (h : x < 4294967296) (l : List UInt8) : crcN x l < 4294967296 := M_lt (fold_lt l (M_lt h))
theorem crcN_append (x : Nat) (a b : List UInt8) : crcN (crcN x a) b = crcN x (a ++ b) := by
  unfold crcN
  rw [M_M, List.foldl_append]
theorem crcN_nil (x : Nat) : crcN x [] = x := M_M x

/-! ### bytes -/
def bs (s : ByteArray) : List UInt8 := s.data.toList
theorem bs_length (s : ByteArray) : (bs s).length = s.size := rfl
theorem bs_append (a b : ByteArray) : bs (a ++ b) = bs a ++ bs b := by
  simp [bs, ByteArray.data_append]
theorem bs_drop (s : ByteArray) (i : Nat) (h : i < s.size) : (bs s).drop i = s[i] :: (bs s).drop (i + 1) := by
  unfold bs
  rw [List.drop_eq_getElem_cons (by simpa using h)]
  rfl
theorem bt_at' (s : ByteArray) (i : Nat) (h : i < s.size) : bt s (i : Int) = (s[i].toNat : Int) := by
  simp [bt, h]

/-! ### the functions -/
theorem add_loop (d : Nat) : ∀ (r : Nat), d ≤ 8 → r < 4294967296 → Ev (fun k => crc_running_add.l0 k (r : Int) ((8 : Int) - d)) ((steps d r : Nat) : Int) := by
  induction d with
  | zero =>
    intro r _ _
    refine Ev.step (f := fun _ => some (r : Int)) (fun k => ?_) (Ev.now _)
    simp only [crc_running_add.l0]
    rw [if_neg (by omega)]
  | succ d ih =>
    intro r hd hr
    refine Ev.step (f := fun k => crc_running_add.l0 k ((step1 r : Nat) : Int) ((8 : Int) - d)) (fun k => ?_) (ih _ (by omega) (step1_lt hr))
    simp only [crc_running_add.l0]
    rw [if_pos (by omega), ba hr, w64 (by omega) (by omega), show ((8 : Int) - (d + 1 : Nat) + 1) = 8 - d by omega]
    by_cases h : r % 2 = 1
    · rw [if_pos (by omega), show (r : Int) / 2 = ((r / 2 : Nat) : Int) by omega, show (3988292384 : Int) = ((3988292384 : Nat) : Int) from rfl, bx (by omega) (by decide)]
      simp only [step1, if_pos h]
    · rw [if_neg (by omega), show (r : Int) / 2 = ((r / 2 : Nat) : Int) by omega]
      simp only [step1, if_neg h]
theorem add_ev {r : Nat} (hr : r < 4294967296) (c : UInt8) : Ev (fun k => crc_running_add.f k (r : Int) (c.toNat : Int)) ((addB r c : Nat) : Int) := by
  have hc : c.toNat < 256 := c.toNat_lt
  refine Ev.congr (fun k => ?_) (add_loop 8 (r ^^^ c.toNat) (by decide) (Nat.xor_lt_two_pow (n := 32) hr (show c.toNat < 2 ^ 32 by omega)))
  unfold crc_running_add.f
  rw [show (c.toNat : Int) % 4294967296 = ((c.toNat : Nat) : Int) by omega, bx hr (by omega)]
  rfl
theorem more_loop (s : ByteArray) (hs : s.size ≤ 9223372036854775807) (d : Nat) : ∀ (i r : Nat), i + d = s.size → r < 4294967296 →
    Ev (fun k => crc_More.l0 k s (r : Int) (s.size : Int) (i : Int)) ((M ^^^ ((bs s).drop i).foldl addB r : Nat) : Int) := by
  induction d with
  | zero =>
    intro i r hi hr
    refine Ev.step (f := fun _ => some ((M ^^^ r : Nat) : Int)) (fun k => ?_) ?_
    · simp only [crc_More.l0]
      rw [if_neg (by omega), maxM, bx (by decide) hr]
    · rw [List.drop_of_length_le (by rw [bs_length]; omega)]
      exact Ev.now _
  | succ d ih =>
    intro i r hi hr
    have hlt : i < s.size := by omega
    refine Ev.step (f := fun k => (crc_running_add.f k (r : Int) (s[i].toNat : Int)).bind fun t => crc_More.l0 k s t (s.size : Int) ((i + 1 : Nat) : Int)) (fun k => ?_) (Ev.bind (add_ev hr s[i]) ?_)
    · simp only [crc_More.l0]
      rw [if_pos (by omega), if_pos (by omega), if_pos (by omega), bt_at' s i hlt, w64 (by omega) (by omega)]
      rfl
    · rw [bs_drop s i hlt]
      exact ih (i + 1) _ (by omega) (addB_lt hr _)
theorem more_ev {x : Nat} (hx : x < 4294967296) (s : ByteArray) (hs : s.size ≤ 9223372036854775807) : Ev (fun k => crc_More.f k (x : Int) s) ((crcN x (bs s) : Nat) : Int) := by
  refine Ev.congr (fun k => ?_) (more_loop s hs s.size 0 (M ^^^ x) (by omega) (M_lt hx))
  unfold crc_More.f
  rw [maxM, bx (by decide) hx]
  rfl
/-- All texts, one behind the other. -/
def bsAll (l : List ByteArray) : List UInt8 := l.flatMap bs
theorem rd_str (l : List ByteArray) (i : Nat) (h : i < l.length) : rdOf ByteArray.empty l (i : Int) = l[i] := by
  simp [rdOf, List.getD, h]
theorem of_loop (l : List ByteArray) (hl : l.length ≤ 9223372036854775807) (hs : ∀ s ∈ l, s.size ≤ 9223372036854775807) (d : Nat) : ∀ (i x : Nat), i + d = l.length → x < 4294967296 →
    Ev (fun k => crc_Of.l0 k (x : Int) l (l.length : Int) (i : Int)) ((crcN x (bsAll (l.drop i)) : Nat) : Int) := by
  induction d with
  | zero =>
    intro i x hi hx
    refine Ev.step (f := fun _ => some (x : Int)) (fun k => ?_) ?_
    · simp only [crc_Of.l0]
      rw [if_neg (by omega)]
    · rw [List.drop_of_length_le (by omega), bsAll, List.flatMap_nil, crcN_nil]
      exact Ev.now _
  | succ d ih =>
    intro i x hi hx
    have hlt : i < l.length := by omega
    refine Ev.step (f := fun k => (crc_More.f k (x : Int) l[i]).bind fun t => crc_Of.l0 k t l (l.length : Int) ((i + 1 : Nat) : Int)) (fun k => ?_) (Ev.bind (more_ev hx l[i] (hs _ (List.getElem_mem hlt))) ?_)
    · simp only [crc_Of.l0]
      rw [if_pos (by omega), if_pos (by omega), if_pos (by omega), rd_str l i hlt, w64 (by omega) (by omega)]
      rfl
    · rw [List.drop_eq_getElem_cons hlt, bsAll, List.flatMap_cons, ← crcN_append]
      exact ih (i + 1) _ (by omega) (crcN_lt hx _)
theorem of_ev (l : List ByteArray) (hl : l.length ≤ 9223372036854775807) (hs : ∀ s ∈ l, s.size ≤ 9223372036854775807) : Ev (fun k => crc_Of.f k l) ((crcN 0 (bsAll l) : Nat) : Int) :=
  Ev.congr (fun _ => rfl) (of_loop l hl hs l.length 0 0 (by omega) (by decide))
theorem ref_loop (s : ByteArray) (hs : s.size ≤ 9223372036854775807) (d : Nat) : ∀ (i r : Nat), i + d = s.size → r < 4294967296 →
    Ev (fun k => gradusref17_More.l0 k (r : Int) s (i : Int)) ((M ^^^ ((bs s).drop i).foldl addB r : Nat) : Int) := by
  induction d with
  | zero =>
    intro i r hi hr
    refine Ev.step (f := fun _ => some ((M ^^^ r : Nat) : Int)) (fun k => ?_) ?_
    · simp only [gradusref17_More.l0]
      rw [if_neg (by omega), maxM, bx (by decide) hr]
    · rw [List.drop_of_length_le (by rw [bs_length]; omega)]
      exact Ev.now _
  | succ d ih =>
    intro i r hi hr
    have hlt : i < s.size := by omega
    have inner : ∀ (n q : Nat), n ≤ 8 → q < 4294967296 → Ev (fun k => gradusref17_More.l0 k ((steps n q : Nat) : Int) s ((i + 1 : Nat) : Int)) ((M ^^^ ((bs s).drop (i + 1)).foldl addB (steps n q) : Nat) : Int) →
        Ev (fun k => gradusref17_More.l1 k (q : Int) s (i : Int) ((8 : Int) - n)) ((M ^^^ ((bs s).drop (i + 1)).foldl addB (steps n q) : Nat) : Int) := by
      intro n
      induction n with
      | zero =>
        intro q _ _ h
        refine Ev.step (fun k => ?_) h
        simp only [gradusref17_More.l1]
        rw [if_neg (by omega), w64 (by omega) (by omega)]
        rfl
      | succ n ihn =>
        intro q hn hq h
        refine Ev.step (f := fun k => gradusref17_More.l1 k ((step1 q : Nat) : Int) s (i : Int) ((8 : Int) - n)) (fun k => ?_) (ihn (step1 q) (by omega) (step1_lt hq) h)
        simp only [gradusref17_More.l1]
        rw [if_pos (by omega), ba hq, w64 (by omega) (by omega), show ((8 : Int) - (n + 1 : Nat) + 1) = 8 - n by omega]
        by_cases h : q % 2 = 1
        · rw [if_pos (by omega), show (q : Int) / 2 = ((q / 2 : Nat) : Int) by omega, show (3988292384 : Int) = ((3988292384 : Nat) : Int) from rfl, bx (by omega) (by decide)]
          simp only [step1, if_pos h]
        · rw [if_neg (by omega), show (q : Int) / 2 = ((q / 2 : Nat) : Int) by omega]
          simp only [step1, if_neg h]
    have hc : s[i].toNat < 256 := s[i].toNat_lt
    have hq : r ^^^ s[i].toNat < 4294967296 := Nat.xor_lt_two_pow (n := 32) hr (show s[i].toNat < 2 ^ 32 by omega)
    rw [bs_drop s i hlt]
    refine Ev.step (fun k => ?_) (inner 8 (r ^^^ s[i].toNat) (by decide) hq (ih (i + 1) (addB r s[i]) (by omega) (addB_lt hr _)))
    simp only [gradusref17_More.l0]
    rw [if_pos (by omega), if_pos (by omega), bt_at' s i hlt, show (s[i].toNat : Int) % 4294967296 = ((s[i].toNat : Nat) : Int) by omega, bx hr (by omega)]
    rfl
theorem refmore_ev {x : Nat} (hx : x < 4294967296) (s : ByteArray) (hs : s.size ≤ 9223372036854775807) : Ev (fun k => gradusref17_More.f k (x : Int) s) ((crcN x (bs s) : Nat) : Int) := by
  refine Ev.congr (fun k => ?_) (ref_loop s hs s.size 0 (M ^^^ x) (by omega) (M_lt hx))
  unfold gradusref17_More.f
  rw [maxM, bx (by decide) hx]
  rfl
theorem refof_ev (s : ByteArray) (hs : s.size ≤ 9223372036854775807) : Ev (fun k => gradusref17_Of.f k s) ((crcN 0 (bs s) : Nat) : Int) :=
  Ev.bind (refmore_ev (x := 0) (by decide) s hs) (Ev.now _)

/-! ### what is too heavy -/
theorem texts_ev (l : List ByteArray) (hl : l.length ≤ 9223372036854775806) (d : Nat) : ∀ (i : Nat) (n : Int), i + d = l.length → ∃ r, Ev (fun k => graduslaw0_Texts.l0 k l n (i : Int)) r := by
  induction d with
  | zero =>
    intro i n hi
    refine ⟨n, Ev.step (f := fun _ => some n) (fun k => ?_) (Ev.now _)⟩
    simp only [graduslaw0_Texts.l0]
    rw [if_neg (by omega)]
  | succ d ih =>
    intro i n hi
    by_cases h : n < 1048576
    · obtain ⟨r, hr⟩ := ih (i + 1) (wrap64 (n + ((rdOf ByteArray.empty l (i : Int)).size : Int))) (by omega)
      refine ⟨r, Ev.step (fun k => ?_) hr⟩
      simp only [graduslaw0_Texts.l0]
      rw [if_pos (by omega), if_pos h, if_pos (by omega), w64 (i := (i : Int) + 1) (by omega) (by omega)]
      rfl
    · refine ⟨n, Ev.step (f := fun _ => some n) (fun k => ?_) (Ev.now _)⟩
      simp only [graduslaw0_Texts.l0]
      rw [if_pos (by omega), if_neg h]
theorem heavy7_ev (l : List ByteArray) (m : List Int) (hl : l.length ≤ 9223372036854775806) : ∃ b, Ev (fun k => graduslaw7_Heavy.f k l m) b := by
  obtain ⟨r, hr⟩ := texts_ev l hl l.length 0 (l.length : Int) (by omega)
  exact ⟨_, Ev.bind (g := fun k => graduslaw0_Texts.f k l) hr (Ev.now _)⟩
theorem wakes_ev : Ev (fun k => graduslaw17_wakes.f k) true := Ev.of (fun k => graduslaw17_wakes.mono k) (k := 60) (by kernel_rfl)
end Go.Proofs.Ytadbpjohcmakpaa.CrcEv
