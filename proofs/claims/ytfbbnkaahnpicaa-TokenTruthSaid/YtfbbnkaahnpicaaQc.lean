/- The seat's ground: the program as the computing reads it, and the chapter's book. No condition. -/
import Derived.Test.YtfbbnkaahnpicaaChecked
import Derived.Test.YtfbbnkaahnpicaaQb
namespace Go.Proofs.Try.Kn
open Go Go.Pg
def i (n:Int):V:=.int .i64 n
def e (n:Int):V:=.int .i64 n
def l5:List (List V):=[[i 1,i 0,i 1],[i 1,i 1,i (-1)],[i 2,i (-1),i 1],[i 1,i 0,i 0],[i 1,i 2,i 0]]
def SS (n:Nat):V:=.agg [i 3,i 5,i 20,.list false (l5.take n),.list false []]
def HH (d:Nat):Mk:=⟨.vec 96 l5,some (.agg [i 3,i 5,i 20,.vec 0 d 0 4,.nil])⟩
def ownN:KnownO:=[(59,[i 4],239,HH 239),(59,[i 4],240,HH 240),(59,[i 4],241,HH 241)]
def litN (d:Tmp):Bool:=Nat.beq d 78
def litS (d:Tmp):Bool:=Nat.beq d 9
def noL (_:Tmp):Bool:=false
def late:V:=.agg [i 3,i 5,i 20,.list false (l5.take 4),.list false [[i 4,i 31,i 40]]]
def poor:V:=.agg [i 3,i 5,i 20,.list false (l5.take 4),.list false [[i 0,i 0,i 19]]]
noncomputable def ex0:RecN:=exec Try.prog (knX []) (koX []) noL 300
noncomputable def exS:RecN:=exec Try.prog (knX []) (koX []) litS 300
def tabN:Known:=[
 (33,[SS 4,i 2],.tup [.list false [[i 2,i 0,i 1]],e 0]),
 (21,[SS 4,i 4],.tup [.list false [[i 1],[i 1],[i 2]],.list false [[i 1],[i 2],[i 1]],e 0]),
 (28,[SS 4,i 2],.tup [.agg [i 30,i 30],e 0]),
 (29,[SS 3],.tup [.agg [i 0,i 1],e 0]),
 (37,[SS 5],.tup [i 4,e 0]),
 (38,[SS 5],.tup [.list false [[i 3]],e 0]),
 (33,[SS 4,i 1],.tup [.list false [[i 1,i 1,i 2]],e 0]),
 (33,[SS 3,i 1],.tup [.list false [[i 1,i 1,i 0],[i 1,i 1,i 2]],e 0]),
 (21,[SS 4,i 2],.tup [.list false [[i 1],[i 1],[i 2]],.list false [[i 2],[i 1],[i 1]],e 0]),
 (28,[SS 4,i 4],.tup [.agg [i 30,i 30],e 0]),
 (29,[SS 4],.tup [.agg [i 0,i 0],e 0]),
 (29,[SS 5],.tup [.agg [i 0,i 0],e 11]),
 (38,[SS 4],.tup [.nil,e 0]),
 (38,[poor],.tup [.nil,e 10]),
 (37,[late],.tup [i 0,e 7]),
 (28,[late,i 0],.tup [.agg [i 0,i 0],e 11]),
 (55,[.agg [i 3,i 5,i 20,.list false (l5.take 4),.list false [[i 5,i 0,i 0]]]],e 1),
 (33,[SS 5,i 5],.tup [.nil,e 2]),
 (21,[SS 5,i 6],.tup [.nil,.nil,e 2]),
 (28,[.agg [i 1,i 5,i 20,.list false [[i 0,i 0,i 0]],.nil],i 1],.tup [.agg [i 25,i 25],e 0])]
noncomputable def exN:RecN:=exec Try.prog (knX tabN) (koX ownN) litN 300
end Go.Proofs.Try.Kn
