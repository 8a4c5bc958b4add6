/- Plain definitions (no program in sight): what the functions of the package compute, on plain data. -/
import Derived.WalkKit
import Derived.Lib.Hide
namespace Go.Proofs.Ytnmmhbhdcplfmaa
open Go.RowKit
structure Tup where
  ip : Int
  port : Int
  my : Int
structure Opt where
  mss : Int
  scale : Int
  sack : Bool
  stamp : Bool
  val : Int
  echo : Int
structure Snd where
  una : Int
  data : ByteArray
  sent : Int
  fin : Bool
  finSent : Bool
  done : Bool
structure Chk where
  seq : Int
  text : ByteArray
  fin : Bool
structure Pce where
  off : Int
  text : ByteArray
structure Rcv where
  next : Int
  data : ByteArray
  held : List Pce
  fin : Int
  done : Bool
structure Con where
  t : Tup
  state : Int
  s : Snd
  r : Rcv
  window : Int
  most : Int
  o : Opt
  timer : Int
  tries : Int
structure Seg where
  src : Int
  dst : Int
  seq : Int
  ack : Int
  flags : Int
  window : Int
  o : Opt
  body : ByteArray
structure Hlf where
  t : Tup
  iss : Int
  irs : Int
  o : Opt
  age : Int
  window : Int
structure Lim where
  halves : Int
  waiting : Int
  conns : Int
  chal : Int
structure Tab where
  conns : List Con
  waiting : List Tup
structure Mrw where
  input : ByteArray
  value : Int
structure Mac where
  use : Bool
  k : Int
  l : Int
  rows : List Mrw
structure Kys where
  epoch : Int
  now : Mac
  before : Mac
  two : Bool
structure Dor where
  port : Int
  clock : Int
  keys : Kys
  lim : Lim
  halves : List Hlf
  table : Tab
  chal : Int

def inB (n lo hi : Int) : Bool := decide (lo ≤ n) && decide (n ≤ hi)
def wordOk (n bits : Int) : Bool := inB bits 1 62 && inB n 0 (2 ^ bits.toNat - 1)
def tupleOk (t : Tup) : Bool := wordOk t.ip 32 && wordOk t.port 16 && wordOk t.my 16
def optionsOk (o : Opt) : Bool := (o.stamp || (o.val == 0 && o.echo == 0)) && wordOk o.mss 16 && inB o.scale (-1) 14 && wordOk o.val 32 && wordOk o.echo 32
def hasF (flags f : Int) : Bool := bits .and .i64 flags f == f
def segLen (g : Seg) : Int := g.body.size + (if hasF g.flags 2 then 1 else 0) + (if hasF g.flags 1 then 1 else 0)
def seqAdd (a n : Int) : Int := (a + n) % 4294967296

def seqDiff (a b : Int) : Int := if (a - b) % 4294967296 > 2147483647 then (a - b) % 4294967296 - 4294967296 else (a - b) % 4294967296
def inWindow (x from_ size : Int) : Bool := decide (0 < size) && decide ((x - from_) % 4294967296 < size)
def overlaps (x n from_ size : Int) : Bool := decide (1 ≤ min n 65536) && (decide (1 ≤ size) && (inWindow x from_ size || decide ((from_ - x) % 4294967296 < min n 65536)))
def segmentOk (g : Seg) : Bool := wordOk g.src 16 && (wordOk g.dst 16 && (wordOk g.window 16 && (wordOk g.seq 32 && (wordOk g.ack 32 && (wordOk g.flags 6 && (optionsOk g.o && decide (g.body.size ≤ 1420)))))))
def flown (s : Snd) : Int := if s.finSent then wrap64 (s.sent + 1) else s.sent
def nextOf (s : Snd) : Int := seqAdd s.una (flown s)
def senderOk (s : Snd) : Bool := wordOk s.una 32 && decide (s.data.size ≤ 48) && inB s.sent 0 s.data.size && (!s.finSent || (s.fin && decide (s.sent = s.data.size))) && (!s.done || (s.fin && !s.finSent && s.data.toList.isEmpty))
def queued (s : Snd) (text : ByteArray) : Snd × Int :=
  if senderOk s && !s.fin then ({ s with data := s.data ++ text.extract 0 (min text.size (48 - s.data.size)) }, (min text.size (48 - s.data.size) : Nat)) else (s, 0)
def rewound (s : Snd) : Snd := if senderOk s then { s with sent := 0, finSent := false } else s
def windowOf (r : Rcv) : Int := if r.done then 0 else max 0 (32 - r.data.size)
def mssFor (c : Con) : Int := if c.o.mss = 0 then 536 else max 1 (min c.o.mss 1460)
def ackOf (c : Con) : Seg := ⟨c.t.my, c.t.port, nextOf c.s, c.r.next, 16, windowOf c.r, ⟨0, -1, false, false, 0, 0⟩, ⟨#[]⟩⟩
def ackFits (c : Con) (ack : Int) : Bool := decide (-(max 0 (min c.most 2147483648)) ≤ seqDiff ack c.s.una) && decide (seqDiff ack c.s.una ≤ flown c.s)
def acceptable (c : Con) (g : Seg) : Bool := if segLen g = 0 then decide (seqDiff g.seq c.r.next = 0) || inWindow g.seq c.r.next (windowOf c.r) else overlaps g.seq (segLen g) c.r.next (windowOf c.r)
def unsent (c : Con) : Bool := !c.s.data.toList.isEmpty || (c.s.fin && !c.s.done)

theorem segLen_le {g : Seg} (h : g.body.size ≤ 1048576) : segLen g ≤ 4611686018427387904 := by unfold segLen; split <;> split <;> omega
theorem seqDiff_range (a b : Int) : -2147483648 ≤ seqDiff a b ∧ seqDiff a b ≤ 2147483647 := by unfold seqDiff; split <;> omega
theorem rest_lo (n : Int) (h : n.tmod 4294967296 < 0) : wrap64 (n.tmod 4294967296 + 4294967296) = n % 4294967296 := by
  rcases Int.le_total 0 n with h0 | h0
  · rw [Int.tmod_eq_emod_of_nonneg h0] at h; omega
  · obtain ⟨m, rfl⟩ : ∃ m, n = -m := ⟨-n, by omega⟩
    rw [Int.neg_tmod, Int.tmod_eq_emod_of_nonneg (by omega)] at h ⊢
    unfold wrap64; omega
theorem rest_hi (n : Int) (h : 0 ≤ n.tmod 4294967296) : n.tmod 4294967296 = n % 4294967296 := by
  rcases Int.le_total 0 n with h0 | h0
  · rw [Int.tmod_eq_emod_of_nonneg h0]
  · obtain ⟨m, rfl⟩ : ∃ m, n = -m := ⟨-n, by omega⟩
    rw [Int.neg_tmod, Int.tmod_eq_emod_of_nonneg (by omega)] at h ⊢
    omega
theorem inB_tt {n lo hi : Int} : inB n lo hi = true ↔ lo ≤ n ∧ n ≤ hi := by simp [inB]
theorem inB_ff {n lo hi : Int} : inB n lo hi = false ↔ n < lo ∨ hi < n := by
  have := @inB_tt n lo hi
  rw [Bool.eq_false_iff, ne_eq, this]; omega

theorem ret_bool {a b : Bool} (h : a = b) : Ending.returned (.bool a) = .returned (.bool b) := by rw [h]
theorem ret_int {k : IntKind} {a b : Int} (h : a = b) : Ending.returned (.int k a) = .returned (.int k b) := by rw [h]
end Go.Proofs.Ytnmmhbhdcplfmaa
