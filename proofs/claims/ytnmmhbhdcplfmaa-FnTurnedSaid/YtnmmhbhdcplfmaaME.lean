/- Plain definitions: connections (no program in sight). -/
import Derived.Test.YtnmmhbhdcplfmaaD0
namespace Go.Proofs.Ytnmmhbhdcplfmaa
open Go.RowKit
def verdict (c : Con) (g : Seg) : Int :=
  if !conOk c || (decide (c.state = 8) || !segmentOk g) then 1
  else if hasF g.flags 4 then (if g.seq = c.r.next then 2 else if inWindow g.seq c.r.next (windowOf c.r) then 3 else 1)
  else if hasF g.flags 2 then 3 else if !acceptable c g then 4 else if !hasF g.flags 16 then 1 else if !ackFits c g.ack then 3 else 5
def turnState (c : Con) : Int :=
  if c.state = 1 then (if c.r.done then 4 else 1)
  else if c.state = 2 then (if c.s.done && c.r.done then 7 else if c.s.done then 3 else if c.r.done then 5 else 2)
  else if c.state = 3 then (if c.r.done then 7 else 3)
  else if c.state = 5 then (if c.s.done then 7 else 5)
  else if c.state = 6 then (if c.s.done then 8 else 6)
  else c.state
def turned (c : Con) : Con :=
  if turnState c = c.state then c
  else if conOk { c with state := turnState c, timer := 0 } && inB c.timer 0 4 then
    (if turnState c = 7 then { c with state := 7, timer := 4, tries := 0 } else if turnState c = 8 then { c with state := 8, timer := 0, tries := 0 } else { c with state := turnState c })
  else c
def cut (s : ByteArray) (n : Int) : Int := max 0 (min n s.size)
def takenIn (r : Rcv) (n : Int) : Rcv × ByteArray := if receiverOk r then ({ r with data := r.data.extract (cut r.data n).toNat r.data.size }, r.data.extract 0 (cut r.data n).toNat) else (r, ⟨#[]⟩)
def readConn (c : Con) (n : Int) : Con × ByteArray × List Seg :=
  if conOk c then
    (if decide (windowOf c.r = 0) && (!decide (windowOf (takenIn c.r n).1 = 0) && (!decide (c.state = 8) && !decide (c.state = 7))) then ({ c with r := (takenIn c.r n).1 }, (takenIn c.r n).2, [ackOf { c with r := (takenIn c.r n).1 }])
     else ({ c with r := (takenIn c.r n).1 }, (takenIn c.r n).2, []))
  else (c, ⟨#[]⟩, [])
def acked (s : Snd) (ack : Int) : Snd × Bool :=
  if senderOk s && inB (seqDiff ack s.una) 0 (flown s) then
    (if s.sent < seqDiff ack s.una then ({ s with una := seqAdd s.una (seqDiff ack s.una), data := s.data.extract s.sent.toNat s.data.size, sent := 0, finSent := false, done := true }, true)
     else ({ s with una := seqAdd s.una (seqDiff ack s.una), data := s.data.extract (seqDiff ack s.una).toNat s.data.size, sent := s.sent - seqDiff ack s.una }, true))
  else (s, false)
end Go.Proofs.Ytnmmhbhdcplfmaa
