/- The table of types, by program. -/
import Derived.Test.YtmophjggmekoeaaGreatDoorProg
import Derived.Test.YtmophjggmekoeaaGreatDoorC3
set_option linter.all false
set_option maxHeartbeats 8000000
namespace Go.Proofs.YtmophjggmekoeaaGreatDoor
open Go.RowKit
theorem Cx.a {P:Program} {t:Nat} {i:TI} (h1:(P.info? t).map (fun x=>(x.zero.map (·.cells.toList),x.size,x.bytes))=some (some i.zero,i.size,i.bytes):=by kernel_rfl) (h2:(P.underlying t).map (Fe P)=some i.td:=by kernel_rfl) (h3:AoI P t i.eqs=true:=by kernel_rfl):Cx P t i:=⟨h1,h2,h3⟩
class Tc (t:Nat) (i:TI):Prop where
 h:Cx Tryz.prog t i
def ti1:TI:={zero:=[.nilFunc],size:=1,bytes:=8,td:={}}
instance:Tc 1 ti1:=⟨.a⟩
def ti2:TI:={zero:=[.int .i64 0],size:=1,bytes:=8,td:={ik:=some .i64}}
instance:Tc 2 ti2:=⟨.a⟩
def ti3:TI:={zero:=[.int .i64 0],size:=1,bytes:=8,td:={ik:=some .i64}}
instance:Tc 3 ti3:=⟨.a⟩
def ti4:TI:={zero:=[.bool false],size:=1,bytes:=1,td:={bl:=true}}
instance:Tc 4 ti4:=⟨.a⟩
def ti5:TI:={zero:=[.int .u8 0],size:=1,bytes:=1,td:={ik:=some .u8}}
instance:Tc 5 ti5:=⟨.a⟩
def ti6:TI:={zero:=[.int .u8 0],size:=1,bytes:=1,td:={ik:=some .u8}}
instance:Tc 6 ti6:=⟨.a⟩
def ti7:TI:={zero:=[.int .i64 0,.int .i64 0,.bool false,.int .u8 0],size:=4,bytes:=24,td:={agg:=true,struct:=true,flds:=[(0,some 1,some false),(1,some 1,some false),(2,some 1,some false),(3,some 1,some false)]},eqs:=some [(0,0),(1,0),(2,2),(3,0)]}
instance:Tc 7 ti7:=⟨.a⟩
def ti8:TI:={zero:=[.int .i64 0,.int .i64 0,.bool false,.int .u8 0],size:=4,bytes:=24,td:={agg:=true,struct:=true,flds:=[(0,some 1,some false),(1,some 1,some false),(2,some 1,some false),(3,some 1,some false)]},eqs:=some [(0,0),(1,0),(2,2),(3,0)]}
instance:Tc 8 ti8:=⟨.a⟩
def ti9:TI:={zero:=[.string ⟨#[]⟩],size:=1,bytes:=16,td:={str:=true}}
instance:Tc 9 ti9:=⟨.a⟩
def Aqx:TI:={zero:=[.string ⟨#[]⟩],size:=1,bytes:=16,td:={str:=true}}
instance:Tc 10 Aqx:=⟨.a⟩
def Aqy:TI:={zero:=[.string ⟨#[]⟩],size:=1,bytes:=16,td:={str:=true}}
instance:Tc 11 Aqy:=⟨.a⟩
def Aqz:TI:={zero:=[.int .u64 0],size:=1,bytes:=8,td:={ik:=some .u64}}
instance:Tc 12 Aqz:=⟨.a⟩
def Aq0:TI:={zero:=[.string ⟨#[]⟩,.int .u64 0],size:=2,bytes:=24,td:={agg:=true,struct:=true,flds:=[(0,some 1,some false),(1,some 1,some false)]}}
instance:Tc 13 Aq0:=⟨.a⟩
def Aq1:TI:={zero:=[.string ⟨#[]⟩,.int .u64 0],size:=2,bytes:=24,td:={agg:=true,struct:=true,flds:=[(0,some 1,some false),(1,some 1,some false)]}}
instance:Tc 14 Aq1:=⟨.a⟩
def Aq2:TI:={zero:=[.pointer none],size:=1,bytes:=8,td:={}}
instance:Tc 15 Aq2:=⟨.a⟩
def Aq3:TI:={zero:=[.pointer none],size:=1,bytes:=8,td:={}}
instance:Tc 16 Aq3:=⟨.a⟩
def Aq4:TI:={zero:=[.pointer none],size:=1,bytes:=8,td:={}}
instance:Tc 17 Aq4:=⟨.a⟩
def Aq5:TI:={zero:=[.pointer none],size:=1,bytes:=8,td:={agg:=true,struct:=true,flds:=[(0,some 1,some false)]}}
instance:Tc 18 Aq5:=⟨.a⟩
def Aq6:TI:={zero:=[.pointer none],size:=1,bytes:=8,td:={agg:=true,struct:=true,flds:=[(0,some 1,some false)]}}
instance:Tc 19 Aq6:=⟨.a⟩
def Aq7:TI:={zero:=[.nilIface],size:=1,bytes:=16,td:={}}
instance:Tc 20 Aq7:=⟨.a⟩
def Aq8:TI:={zero:=[.int .i32 0],size:=1,bytes:=4,td:={ik:=some .i32}}
instance:Tc 21 Aq8:=⟨.a⟩
def Aq9:TI:={zero:=[.slice none 0 0],size:=1,bytes:=24,td:={elem:=some 91}}
instance:Tc 22 Aq9:=⟨.a⟩
def AqA:TI:={zero:=[.nilFunc],size:=1,bytes:=8,td:={}}
instance:Tc 23 AqA:=⟨.a⟩
def AqB:TI:={zero:=[.slice none 0 0],size:=1,bytes:=24,td:={elem:=some 63}}
instance:Tc 24 AqB:=⟨.a⟩
def AqC:TI:={zero:=[.slice none 0 0],size:=1,bytes:=24,td:={elem:=some 97}}
instance:Tc 25 AqC:=⟨.a⟩
def AqD:TI:={zero:=[.slice none 0 0,.slice none 0 0],size:=2,bytes:=48,td:={agg:=true,struct:=true,flds:=[(0,some 1,some false),(1,some 1,some false)]}}
instance:Tc 26 AqD:=⟨.a⟩
def AqE:TI:={zero:=[.slice none 0 0,.slice none 0 0],size:=2,bytes:=48,td:={agg:=true,struct:=true,flds:=[(0,some 1,some false),(1,some 1,some false)]}}
instance:Tc 27 AqE:=⟨.a⟩
def AqF:TI:={zero:=[.slice none 0 0],size:=1,bytes:=24,td:={elem:=some 9}}
instance:Tc 30 AqF:=⟨.a⟩
def AqG:TI:={zero:=[.nilFunc],size:=1,bytes:=8,td:={}}
instance:Tc 33 AqG:=⟨.a⟩
def AqH:TI:={zero:=[.slice none 0 0],size:=1,bytes:=24,td:={elem:=some 45}}
instance:Tc 37 AqH:=⟨.a⟩
def AqI:TI:={zero:=[.string ⟨#[]⟩,.string ⟨#[]⟩,.slice none 0 0],size:=3,bytes:=56,td:={agg:=true,struct:=true,flds:=[(0,some 1,some false),(1,some 1,some false),(2,some 1,some false)]}}
instance:Tc 38 AqI:=⟨.a⟩
def AqJ:TI:={zero:=[.string ⟨#[]⟩,.string ⟨#[]⟩,.slice none 0 0],size:=3,bytes:=56,td:={agg:=true,struct:=true,flds:=[(0,some 1,some false),(1,some 1,some false),(2,some 1,some false)]}}
instance:Tc 39 AqJ:=⟨.a⟩
def AqK:TI:={zero:=[.int .i64 0],size:=1,bytes:=8,td:={ik:=some .i64}}
instance:Tc 40 AqK:=⟨.a⟩
def AqL:TI:={zero:=[.slice none 0 0],size:=1,bytes:=24,td:={elem:=some 39}}
instance:Tc 43 AqL:=⟨.a⟩
def AqM:TI:={zero:=[.string ⟨#[]⟩,.int .i64 0],size:=2,bytes:=24,td:={agg:=true,struct:=true,flds:=[(0,some 1,some false),(1,some 1,some false)]},eqs:=some [(0,1),(1,0)]}
instance:Tc 44 AqM:=⟨.a⟩
def AqN:TI:={zero:=[.string ⟨#[]⟩,.int .i64 0],size:=2,bytes:=24,td:={agg:=true,struct:=true,flds:=[(0,some 1,some false),(1,some 1,some false)]},eqs:=some [(0,1),(1,0)]}
instance:Tc 45 AqN:=⟨.a⟩
def AqO:TI:={zero:=[.slice none 0 0],size:=1,bytes:=24,td:={elem:=some 89}}
instance:Tc 48 AqO:=⟨.a⟩
def AqP:TI:={zero:=[.nilFunc],size:=1,bytes:=8,td:={}}
instance:Tc 49 AqP:=⟨.a⟩
def AqQ:TI:={zero:=[.nilFunc],size:=1,bytes:=8,td:={}}
instance:Tc 50 AqQ:=⟨.a⟩
def AqR:TI:={zero:=[.nilFunc],size:=1,bytes:=8,td:={}}
instance:Tc 51 AqR:=⟨.a⟩
def AqS:TI:={zero:=[.nilFunc],size:=1,bytes:=8,td:={}}
instance:Tc 52 AqS:=⟨.a⟩
def AqT:TI:={zero:=[.nilFunc],size:=1,bytes:=8,td:={}}
instance:Tc 53 AqT:=⟨.a⟩
def AqU:TI:={zero:=[.map none],size:=1,bytes:=8,td:={}}
instance:Tc 54 AqU:=⟨.a⟩
def AqV:TI:={zero:=[.nilFunc],size:=1,bytes:=8,td:={}}
instance:Tc 56 AqV:=⟨.a⟩
def AqW:TI:={zero:=[.nilFunc],size:=1,bytes:=8,td:={}}
instance:Tc 57 AqW:=⟨.a⟩
def AqX:TI:={zero:=[.nilFunc],size:=1,bytes:=8,td:={}}
instance:Tc 59 AqX:=⟨.a⟩
def AqY:TI:={zero:=[.slice none 0 0],size:=1,bytes:=24,td:={elem:=some 67}}
instance:Tc 60 AqY:=⟨.a⟩
def AqZ:TI:={zero:=[.slice none 0 0],size:=1,bytes:=24,td:={elem:=some 131}}
instance:Tc 61 AqZ:=⟨.a⟩
def Ara:TI:={zero:=[.int .i64 0,.string ⟨#[]⟩,.slice none 0 0,.slice none 0 0,.int .i64 0,.slice none 0 0,.bool false,.bool false],size:=8,bytes:=112,td:={agg:=true,struct:=true,flds:=[(0,some 1,some false),(1,some 1,some false),(2,some 1,some false),(3,some 1,some false),(4,some 1,some false),(5,some 1,some false),(6,some 1,some false),(7,some 1,some false)]}}
instance:Tc 62 Ara:=⟨.a⟩
def Arb:TI:={zero:=[.int .i64 0,.string ⟨#[]⟩,.slice none 0 0,.slice none 0 0,.int .i64 0,.slice none 0 0,.bool false,.bool false],size:=8,bytes:=112,td:={agg:=true,struct:=true,flds:=[(0,some 1,some false),(1,some 1,some false),(2,some 1,some false),(3,some 1,some false),(4,some 1,some false),(5,some 1,some false),(6,some 1,some false),(7,some 1,some false)]}}
instance:Tc 63 Arb:=⟨.a⟩
def Arc:TI:={zero:=[.slice none 0 0],size:=1,bytes:=24,td:={elem:=some 179}}
instance:Tc 65 Arc:=⟨.a⟩
def Ard:TI:={zero:=[.string ⟨#[]⟩,.int .i64 0,.string ⟨#[]⟩,.slice none 0 0,.int .i64 0],size:=5,bytes:=72,td:={agg:=true,struct:=true,flds:=[(0,some 1,some false),(1,some 1,some false),(2,some 1,some false),(3,some 1,some false),(4,some 1,some false)]}}
instance:Tc 66 Ard:=⟨.a⟩
def Are:TI:={zero:=[.string ⟨#[]⟩,.int .i64 0,.string ⟨#[]⟩,.slice none 0 0,.int .i64 0],size:=5,bytes:=72,td:={agg:=true,struct:=true,flds:=[(0,some 1,some false),(1,some 1,some false),(2,some 1,some false),(3,some 1,some false),(4,some 1,some false)]}}
instance:Tc 67 Are:=⟨.a⟩
def Arf:TI:={zero:=[.int .i64 0,.string ⟨#[]⟩,.int .i64 0,.string ⟨#[]⟩],size:=4,bytes:=48,td:={agg:=true,struct:=true,flds:=[(0,some 1,some false),(1,some 1,some false),(2,some 1,some false),(3,some 1,some false)]},eqs:=some [(0,0),(1,1),(2,0),(3,1)]}
instance:Tc 68 Arf:=⟨.a⟩
def Arh:TI:={zero:=[.int .i64 0,.string ⟨#[]⟩,.int .i64 0,.string ⟨#[]⟩],size:=4,bytes:=48,td:={agg:=true,struct:=true,flds:=[(0,some 1,some false),(1,some 1,some false),(2,some 1,some false),(3,some 1,some false)]},eqs:=some [(0,0),(1,1),(2,0),(3,1)]}
instance:Tc 69 Arh:=⟨.a⟩
def Ari:TI:={zero:=[.slice none 0 0],size:=1,bytes:=24,td:={elem:=some 3}}
instance:Tc 70 Ari:=⟨.a⟩
def Arj:TI:={zero:=[.nilFunc],size:=1,bytes:=8,td:={}}
instance:Tc 74 Arj:=⟨.a⟩
def Ark:TI:={zero:=[.pointer none],size:=1,bytes:=8,td:={}}
instance:Tc 79 Ark:=⟨.a⟩
def Arl:TI:={zero:=[.map none],size:=1,bytes:=8,td:={}}
instance:Tc 80 Arl:=⟨.a⟩
def Arm:TI:={zero:=[.slice none 0 0,.slice none 0 0,.int .i64 0,.string ⟨#[]⟩,.int .i64 0,.string ⟨#[]⟩,.string ⟨#[]⟩,.string ⟨#[]⟩,.map none],size:=9,bytes:=136,td:={agg:=true,struct:=true,flds:=[(0,some 2,some true),(2,some 4,some true),(6,some 1,some false),(7,some 1,some false),(8,some 1,some false)]}}
instance:Tc 81 Arm:=⟨.a⟩
def Arn:TI:={zero:=[.slice none 0 0,.slice none 0 0,.int .i64 0,.string ⟨#[]⟩,.int .i64 0,.string ⟨#[]⟩,.string ⟨#[]⟩,.string ⟨#[]⟩,.map none],size:=9,bytes:=136,td:={agg:=true,struct:=true,flds:=[(0,some 2,some true),(2,some 4,some true),(6,some 1,some false),(7,some 1,some false),(8,some 1,some false)]}}
instance:Tc 82 Arn:=⟨.a⟩
def Aro:TI:={zero:=[.int .i64 0,.slice none 0 0,.int .i64 0,.int .i64 0],size:=4,bytes:=48,td:={agg:=true,struct:=true,flds:=[(0,some 1,some false),(1,some 1,some false),(2,some 1,some false),(3,some 1,some false)]}}
instance:Tc 86 Aro:=⟨.a⟩
def Arp:TI:={zero:=[.int .i64 0,.slice none 0 0,.int .i64 0,.int .i64 0],size:=4,bytes:=48,td:={agg:=true,struct:=true,flds:=[(0,some 1,some false),(1,some 1,some false),(2,some 1,some false),(3,some 1,some false)]}}
instance:Tc 87 Arp:=⟨.a⟩
def Arq:TI:={zero:=[.int .i64 0,.int .i64 0,.int .i64 0,.int .i64 0,.string ⟨#[]⟩,.int .i64 0,.int .i64 0,.string ⟨#[]⟩,.string ⟨#[]⟩,.slice none 0 0,.slice none 0 0,.int .i64 0,.slice none 0 0,.int .i64 0,.int .i64 0,.int .i64 0,.int .i64 0,.int .i64 0,.string ⟨#[]⟩,.string ⟨#[]⟩,.int .i64 0,.int .i64 0,.int .i64 0],size:=23,bytes:=272,td:={agg:=true,struct:=true,flds:=[(0,some 1,some false),(1,some 1,some false),(2,some 1,some false),(3,some 1,some false),(4,some 1,some false),(5,some 1,some false),(6,some 1,some false),(7,some 1,some false),(8,some 1,some false),(9,some 1,some false),(10,some 1,some false),(11,some 4,some true),(15,some 1,some false),(16,some 1,some false),(17,some 1,some false),(18,some 1,some false),(19,some 1,some false),(20,some 1,some false),(21,some 1,some false),(22,some 1,some false)]}}
instance:Tc 88 Arq:=⟨.a⟩
def Arr:TI:={zero:=[.int .i64 0,.int .i64 0,.int .i64 0,.int .i64 0,.string ⟨#[]⟩,.int .i64 0,.int .i64 0,.string ⟨#[]⟩,.string ⟨#[]⟩,.slice none 0 0,.slice none 0 0,.int .i64 0,.slice none 0 0,.int .i64 0,.int .i64 0,.int .i64 0,.int .i64 0,.int .i64 0,.string ⟨#[]⟩,.string ⟨#[]⟩,.int .i64 0,.int .i64 0,.int .i64 0],size:=23,bytes:=272,td:={agg:=true,struct:=true,flds:=[(0,some 1,some false),(1,some 1,some false),(2,some 1,some false),(3,some 1,some false),(4,some 1,some false),(5,some 1,some false),(6,some 1,some false),(7,some 1,some false),(8,some 1,some false),(9,some 1,some false),(10,some 1,some false),(11,some 4,some true),(15,some 1,some false),(16,some 1,some false),(17,some 1,some false),(18,some 1,some false),(19,some 1,some false),(20,some 1,some false),(21,some 1,some false),(22,some 1,some false)]}}
instance:Tc 89 Arr:=⟨.a⟩
def Ars:TI:={zero:=[.int .i64 0,.int .i64 0,.int .i64 0,.int .i64 0,.int .i64 0],size:=5,bytes:=40,td:={agg:=true,arr:=some (5,3)}}
instance:Tc 91 Ars:=⟨.a⟩
def Art:TI:={zero:=[.string ⟨#[]⟩,.string ⟨#[]⟩],size:=2,bytes:=32,td:={agg:=true,struct:=true,flds:=[(0,some 1,some false),(1,some 1,some false)]},eqs:=some [(0,1),(1,1)]}
instance:Tc 96 Art:=⟨.a⟩
def Aru:TI:={zero:=[.string ⟨#[]⟩,.string ⟨#[]⟩],size:=2,bytes:=32,td:={agg:=true,struct:=true,flds:=[(0,some 1,some false),(1,some 1,some false)]},eqs:=some [(0,1),(1,1)]}
instance:Tc 97 Aru:=⟨.a⟩
def Arv:TI:={zero:=[.map none],size:=1,bytes:=8,td:={}}
instance:Tc 98 Arv:=⟨.a⟩
def Aes:TI:={zero:=[.nilFunc],size:=1,bytes:=8,td:={}}
instance:Tc 101 Aes:=⟨.a⟩
def Aet:TI:={zero:=[.nilFunc],size:=1,bytes:=8,td:={}}
instance:Tc 102 Aet:=⟨.a⟩
def Aeu:TI:={zero:=[.nilIface],size:=1,bytes:=16,td:={}}
instance:Tc 118 Aeu:=⟨.a⟩
def Aev:TI:={zero:=[.nilIface],size:=1,bytes:=16,td:={}}
instance:Tc 119 Aev:=⟨.a⟩
def Aew:TI:={zero:=[.slice none 0 0],size:=1,bytes:=24,td:={elem:=some 234}}
instance:Tc 123 Aew:=⟨.a⟩
def Aex:TI:={zero:=[.nilFunc],size:=1,bytes:=8,td:={}}
instance:Tc 127 Aex:=⟨.a⟩
def Aey:TI:={zero:=[.nilFunc],size:=1,bytes:=8,td:={}}
instance:Tc 129 Aey:=⟨.a⟩
def Aez:TI:={zero:=[.string ⟨#[]⟩,.int .i64 0,.int .i64 0,.string ⟨#[]⟩,.int .i64 0],size:=5,bytes:=56,td:={agg:=true,struct:=true,flds:=[(0,some 1,some false),(1,some 1,some false),(2,some 1,some false),(3,some 1,some false),(4,some 1,some false)]},eqs:=some [(0,1),(1,0),(2,0),(3,1),(4,0)]}
instance:Tc 130 Aez:=⟨.a⟩
def Ae0:TI:={zero:=[.string ⟨#[]⟩,.int .i64 0,.int .i64 0,.string ⟨#[]⟩,.int .i64 0],size:=5,bytes:=56,td:={agg:=true,struct:=true,flds:=[(0,some 1,some false),(1,some 1,some false),(2,some 1,some false),(3,some 1,some false),(4,some 1,some false)]},eqs:=some [(0,1),(1,0),(2,0),(3,1),(4,0)]}
instance:Tc 131 Ae0:=⟨.a⟩
def Ae1:TI:={zero:=[.int .u32 0],size:=1,bytes:=4,td:={ik:=some .u32}}
instance:Tc 133 Ae1:=⟨.a⟩
def Ae2:TI:={zero:=[.int .u64 0],size:=1,bytes:=8,td:={ik:=some .u64}}
instance:Tc 134 Ae2:=⟨.a⟩
def Ae3:TI:={zero:=[.int .u32 0,.int .u32 0,.int .u32 0,.int .u32 0,.int .u32 0,.int .u32 0,.int .u32 0,.int .u32 0,.int .u32 0,.int .u32 0,.int .u32 0,.int .u32 0,.int .u32 0,.int .u32 0,.int .u32 0,.int .u32 0],size:=16,bytes:=64,td:={agg:=true,arr:=some (16,133)}}
instance:Tc 135 Ae3:=⟨.a⟩
def Ae4:TI:={zero:=[.slice none 0 0],size:=1,bytes:=24,td:={elem:=some 141}}
instance:Tc 137 Ae4:=⟨.a⟩
def Ae5:TI:={zero:=[.nilFunc],size:=1,bytes:=8,td:={}}
instance:Tc 139 Ae5:=⟨.a⟩
def Ae6:TI:={zero:=[.string ⟨#[]⟩,.int .i64 0,.nilFunc],size:=3,bytes:=32,td:={agg:=true,struct:=true,flds:=[(0,some 1,some false),(1,some 1,some false),(2,some 1,some false)]}}
instance:Tc 140 Ae6:=⟨.a⟩
def Ae7:TI:={zero:=[.string ⟨#[]⟩,.int .i64 0,.nilFunc],size:=3,bytes:=32,td:={agg:=true,struct:=true,flds:=[(0,some 1,some false),(1,some 1,some false),(2,some 1,some false)]}}
instance:Tc 141 Ae7:=⟨.a⟩
def Ae8:TI:={zero:=[.nilFunc],size:=1,bytes:=8,td:={}}
instance:Tc 142 Ae8:=⟨.a⟩
def Ae9:TI:={zero:=[.nilFunc],size:=1,bytes:=8,td:={}}
instance:Tc 143 Ae9:=⟨.a⟩
def AeA:TI:={zero:=[.int .i64 0,.nilFunc],size:=2,bytes:=16,td:={agg:=true,struct:=true,flds:=[(0,some 1,some false),(1,some 1,some false)]}}
instance:Tc 144 AeA:=⟨.a⟩
def AeB:TI:={zero:=[.int .i64 0,.nilFunc],size:=2,bytes:=16,td:={agg:=true,struct:=true,flds:=[(0,some 1,some false),(1,some 1,some false)]}}
instance:Tc 145 AeB:=⟨.a⟩
def AeC:TI:={zero:=[.slice none 0 0],size:=1,bytes:=24,td:={elem:=some 230}}
instance:Tc 153 AeC:=⟨.a⟩
def AeD:TI:={zero:=[.int .i64 0],size:=1,bytes:=8,td:={ik:=some .i64}}
instance:Tc 156 AeD:=⟨.a⟩
def AeE:TI:={zero:=[.slice none 0 0,.int .i64 0,.int .i64 0],size:=3,bytes:=40,td:={agg:=true,struct:=true,flds:=[(0,some 1,some false),(1,some 1,some false),(2,some 1,some false)]}}
instance:Tc 158 AeE:=⟨.a⟩
def AeF:TI:={zero:=[.slice none 0 0,.int .i64 0,.int .i64 0],size:=3,bytes:=40,td:={agg:=true,struct:=true,flds:=[(0,some 1,some false),(1,some 1,some false),(2,some 1,some false)]}}
instance:Tc 159 AeF:=⟨.a⟩
def AeG:TI:={zero:=[.nilIface],size:=1,bytes:=16,td:={}}
instance:Tc 162 AeG:=⟨.a⟩
def AeH:TI:={zero:=[.nilIface],size:=1,bytes:=16,td:={}}
instance:Tc 163 AeH:=⟨.a⟩
def AeI:TI:={zero:=[.int .i64 0],size:=1,bytes:=8,td:={agg:=true,struct:=true,flds:=[(0,some 1,some false)]},eqs:=some [(0,0)]}
instance:Tc 164 AeI:=⟨.a⟩
def AeJ:TI:={zero:=[.int .i64 0],size:=1,bytes:=8,td:={agg:=true,struct:=true,flds:=[(0,some 1,some false)]},eqs:=some [(0,0)]}
instance:Tc 165 AeJ:=⟨.a⟩
def AeK:TI:={zero:=[.pointer none],size:=1,bytes:=8,td:={}}
instance:Tc 167 AeK:=⟨.a⟩
def AeL:TI:={zero:=[.map none],size:=1,bytes:=8,td:={}}
instance:Tc 168 AeL:=⟨.a⟩
def AeM:TI:={zero:=[.slice none 0 0],size:=1,bytes:=24,td:={elem:=some 5}}
instance:Tc 170 AeM:=⟨.a⟩
def AeN:TI:={zero:=[.slice none 0 0],size:=1,bytes:=24,td:={agg:=true,struct:=true,flds:=[(0,some 1,some false)]}}
instance:Tc 171 AeN:=⟨.a⟩
def AeO:TI:={zero:=[.slice none 0 0],size:=1,bytes:=24,td:={agg:=true,struct:=true,flds:=[(0,some 1,some false)]}}
instance:Tc 172 AeO:=⟨.a⟩
def AeP:TI:={zero:=[.slice none 0 0,.nilIface,.map none,.int .i64 0,.int .i64 0],size:=5,bytes:=64,td:={agg:=true,struct:=true,flds:=[(0,some 1,some true),(1,some 1,some false),(2,some 1,some false),(3,some 1,some false),(4,some 1,some false)]}}
instance:Tc 173 AeP:=⟨.a⟩
def AeQ:TI:={zero:=[.slice none 0 0,.nilIface,.map none,.int .i64 0,.int .i64 0],size:=5,bytes:=64,td:={agg:=true,struct:=true,flds:=[(0,some 1,some true),(1,some 1,some false),(2,some 1,some false),(3,some 1,some false),(4,some 1,some false)]}}
instance:Tc 174 AeQ:=⟨.a⟩
def AeR:TI:={zero:=[.slice none 0 0],size:=1,bytes:=24,td:={elem:=some 30}}
instance:Tc 177 AeR:=⟨.a⟩
def AeS:TI:={zero:=[.int .i64 0,.int .i64 0,.string ⟨#[]⟩,.int .i64 0,.int .i64 0,.int .i64 0,.slice none 0 0,.int .i64 0,.int .i64 0],size:=9,bytes:=96,td:={agg:=true,struct:=true,flds:=[(0,some 1,some false),(1,some 1,some false),(2,some 1,some false),(3,some 1,some false),(4,some 1,some false),(5,some 4,some true)]}}
instance:Tc 178 AeS:=⟨.a⟩
def AeT:TI:={zero:=[.int .i64 0,.int .i64 0,.string ⟨#[]⟩,.int .i64 0,.int .i64 0,.int .i64 0,.slice none 0 0,.int .i64 0,.int .i64 0],size:=9,bytes:=96,td:={agg:=true,struct:=true,flds:=[(0,some 1,some false),(1,some 1,some false),(2,some 1,some false),(3,some 1,some false),(4,some 1,some false),(5,some 4,some true)]}}
instance:Tc 179 AeT:=⟨.a⟩
def AeU:TI:={zero:=[.nilFunc],size:=1,bytes:=8,td:={}}
instance:Tc 191 AeU:=⟨.a⟩
def AeV:TI:={zero:=[.nilFunc],size:=1,bytes:=8,td:={}}
instance:Tc 192 AeV:=⟨.a⟩
def AeW:TI:={zero:=[.int .i64 0,.string ⟨#[]⟩,.slice none 0 0,.slice none 0 0,.int .i64 0,.slice none 0 0,.bool false,.bool false,.int .i64 0],size:=9,bytes:=120,td:={agg:=true,struct:=true,flds:=[(0,some 8,some true),(8,some 1,some false)]}}
instance:Tc 194 AeW:=⟨.a⟩
def AeX:TI:={zero:=[.int .i64 0,.string ⟨#[]⟩,.slice none 0 0,.slice none 0 0,.int .i64 0,.slice none 0 0,.bool false,.bool false,.int .i64 0],size:=9,bytes:=120,td:={agg:=true,struct:=true,flds:=[(0,some 8,some true),(8,some 1,some false)]}}
instance:Tc 195 AeX:=⟨.a⟩
def AeY:TI:={zero:=[.slice none 0 0],size:=1,bytes:=24,td:={elem:=some 195}}
instance:Tc 197 AeY:=⟨.a⟩
def AeZ:TI:={zero:=[.nilFunc],size:=1,bytes:=8,td:={}}
instance:Tc 199 AeZ:=⟨.a⟩
def Afa:TI:={zero:=[.nilFunc],size:=1,bytes:=8,td:={}}
instance:Tc 202 Afa:=⟨.a⟩
def Afb:TI:={zero:=[.int .i64 0],size:=1,bytes:=8,td:={ik:=some .i64}}
instance:Tc 205 Afb:=⟨.a⟩
def Afc:TI:={zero:=[.int .u64 0],size:=1,bytes:=8,td:={ik:=some .u64}}
instance:Tc 213 Afc:=⟨.a⟩
def Afd:TI:={zero:=[.int .i64 0],size:=1,bytes:=8,td:={ik:=some .i64}}
instance:Tc 220 Afd:=⟨.a⟩
def Afe:TI:={zero:=[.pointer none],size:=1,bytes:=8,td:={}}
instance:Tc 223 Afe:=⟨.a⟩
def Aff:TI:={zero:=[.nilFunc],size:=1,bytes:=8,td:={}}
instance:Tc 226 Aff:=⟨.a⟩
def Afg:TI:={zero:=[.nilFunc],size:=1,bytes:=8,td:={}}
instance:Tc 227 Afg:=⟨.a⟩
def Afh:TI:={zero:=[.int .i64 0,.string ⟨#[]⟩,.int .i64 0],size:=3,bytes:=32,td:={agg:=true,struct:=true,flds:=[(0,some 1,some false),(1,some 1,some false),(2,some 1,some false)]},eqs:=some [(0,0),(1,1),(2,0)]}
instance:Tc 229 Afh:=⟨.a⟩
def Afi:TI:={zero:=[.int .i64 0,.string ⟨#[]⟩,.int .i64 0],size:=3,bytes:=32,td:={agg:=true,struct:=true,flds:=[(0,some 1,some false),(1,some 1,some false),(2,some 1,some false)]},eqs:=some [(0,0),(1,1),(2,0)]}
instance:Tc 230 Afi:=⟨.a⟩
def Afj:TI:={zero:=[.pointer none],size:=1,bytes:=8,td:={}}
instance:Tc 231 Afj:=⟨.a⟩
def Afk:TI:={zero:=[.int .i64 0,.string ⟨#[]⟩,.string ⟨#[]⟩,.string ⟨#[]⟩,.int .i64 0,.slice none 0 0,.slice none 0 0,.slice none 0 0],size:=8,bytes:=136,td:={agg:=true,struct:=true,flds:=[(0,some 1,some false),(1,some 1,some false),(2,some 1,some false),(3,some 1,some false),(4,some 1,some false),(5,some 1,some false),(6,some 1,some false),(7,some 1,some false)]}}
instance:Tc 233 Afk:=⟨.a⟩
def Afl:TI:={zero:=[.int .i64 0,.string ⟨#[]⟩,.string ⟨#[]⟩,.string ⟨#[]⟩,.int .i64 0,.slice none 0 0,.slice none 0 0,.slice none 0 0],size:=8,bytes:=136,td:={agg:=true,struct:=true,flds:=[(0,some 1,some false),(1,some 1,some false),(2,some 1,some false),(3,some 1,some false),(4,some 1,some false),(5,some 1,some false),(6,some 1,some false),(7,some 1,some false)]}}
instance:Tc 234 Afl:=⟨.a⟩
def Afm:TI:={zero:=[.pointer none],size:=1,bytes:=8,td:={}}
instance:Tc 263 Afm:=⟨.a⟩
def Afn:TI:={zero:=[.pointer none,.slice none 0 0],size:=2,bytes:=32,td:={agg:=true,struct:=true,flds:=[(0,some 1,some false),(1,some 1,some false)]}}
instance:Tc 264 Afn:=⟨.a⟩
def Afo:TI:={zero:=[.pointer none,.slice none 0 0],size:=2,bytes:=32,td:={agg:=true,struct:=true,flds:=[(0,some 1,some false),(1,some 1,some false)]}}
instance:Tc 265 Afo:=⟨.a⟩
def Afp:TI:={zero:=[.slice none 0 0],size:=1,bytes:=24,td:={elem:=some 199}}
instance:Tc 267 Afp:=⟨.a⟩
def Afq:TI:={zero:=[.nilFunc],size:=1,bytes:=8,td:={}}
instance:Tc 270 Afq:=⟨.a⟩
def Afr:TI:={zero:=[.int .u64 0],size:=1,bytes:=8,td:={ik:=some .u64}}
instance:Tc 271 Afr:=⟨.a⟩
def Afs:TI:={zero:=[.pointer none],size:=1,bytes:=8,td:={}}
instance:Tc 275 Afs:=⟨.a⟩
def Aft:TI:={zero:=[.string ⟨#[]⟩,.string ⟨#[]⟩,.nilIface],size:=3,bytes:=48,td:={agg:=true,struct:=true,flds:=[(0,some 1,some false),(1,some 1,some false),(2,some 1,some false)]}}
instance:Tc 284 Aft:=⟨.a⟩
def Afu:TI:={zero:=[.string ⟨#[]⟩,.string ⟨#[]⟩,.nilIface],size:=3,bytes:=48,td:={agg:=true,struct:=true,flds:=[(0,some 1,some false),(1,some 1,some false),(2,some 1,some false)]}}
instance:Tc 285 Afu:=⟨.a⟩
def Afv:TI:={zero:=[.nilFunc],size:=1,bytes:=8,td:={}}
instance:Tc 287 Afv:=⟨.a⟩
def Afw:TI:={zero:=[.int .u8 0,.int .u8 0,.int .u8 0,.int .u8 0,.int .u8 0,.int .u8 0,.int .u8 0,.int .u8 0,.int .u8 0,.int .u8 0,.int .u8 0,.int .u8 0,.int .u8 0,.int .u8 0,.int .u8 0,.int .u8 0,.int .u8 0,.int .u8 0,.int .u8 0,.int .u8 0,.int .u8 0,.int .u8 0,.int .u8 0,.int .u8 0],size:=24,bytes:=24,td:={agg:=true,arr:=some (24,5)}}
instance:Tc 299 Afw:=⟨.a⟩
def Afx:TI:={zero:=[.pointer none],size:=1,bytes:=8,td:={}}
instance:Tc 317 Afx:=⟨.a⟩
def Afy:TI:={zero:=[.pointer none],size:=1,bytes:=8,td:={}}
instance:Tc 320 Afy:=⟨.a⟩
def Afz:TI:={zero:=[.pointer none],size:=1,bytes:=8,td:={}}
instance:Tc 326 Afz:=⟨.a⟩
def Af0:TI:={zero:=[.string ⟨#[]⟩],size:=1,bytes:=16,td:={agg:=true,struct:=true,flds:=[(0,some 1,some false)]},eqs:=some [(0,1)]}
instance:Tc 327 Af0:=⟨.a⟩
def Af1:TI:={zero:=[.string ⟨#[]⟩],size:=1,bytes:=16,td:={agg:=true,struct:=true,flds:=[(0,some 1,some false)]},eqs:=some [(0,1)]}
instance:Tc 328 Af1:=⟨.a⟩
def Af2:TI:={zero:=[.nilFunc],size:=1,bytes:=8,td:={}}
instance:Tc 329 Af2:=⟨.a⟩
def Af3:TI:={zero:=[.pointer none],size:=1,bytes:=8,td:={}}
instance:Tc 331 Af3:=⟨.a⟩
def Af4:TI:={zero:=[.int .u64 0,.int .u64 0,.int .u64 0,.int .u64 0,.int .u64 0,.int .u64 0,.int .u64 0,.int .u64 0,.int .u64 0,.int .u64 0,.int .u64 0,.int .u64 0,.int .u64 0,.int .u64 0,.int .u64 0,.int .u64 0,.int .u64 0,.int .u64 0,.int .u64 0,.int .u64 0],size:=20,bytes:=160,td:={agg:=true,arr:=some (20,213)}}
instance:Tc 334 Af4:=⟨.a⟩
def Af5:TI:={zero:=[.int .u8 0,.int .u8 0,.int .u8 0,.int .u8 0,.int .u8 0,.int .u8 0,.int .u8 0,.int .u8 0,.int .u8 0,.int .u8 0,.int .u8 0,.int .u8 0,.int .u8 0,.int .u8 0,.int .u8 0,.int .u8 0,.int .u8 0,.int .u8 0,.int .u8 0,.int .u8 0,.int .u8 0,.int .u8 0,.int .u8 0,.int .u8 0,.int .u8 0,.int .u8 0,.int .u8 0,.int .u8 0,.int .u8 0,.int .u8 0,.int .u8 0,.int .u8 0,.int .u8 0,.int .u8 0,.int .u8 0,.int .u8 0,.int .u8 0,.int .u8 0,.int .u8 0,.int .u8 0,.int .u8 0,.int .u8 0,.int .u8 0,.int .u8 0,.int .u8 0,.int .u8 0,.int .u8 0,.int .u8 0,.int .u8 0,.int .u8 0,.int .u8 0,.int .u8 0,.int .u8 0,.int .u8 0,.int .u8 0,.int .u8 0,.int .u8 0,.int .u8 0,.int .u8 0,.int .u8 0,.int .u8 0,.int .u8 0,.int .u8 0,.int .u8 0,.int .u8 0],size:=65,bytes:=65,td:={agg:=true,arr:=some (65,5)}}
instance:Tc 335 Af5:=⟨.a⟩
def Af6:TI:={zero:=[.int .u8 0,.int .u8 0,.int .u8 0,.int .u8 0,.int .u8 0,.int .u8 0,.int .u8 0,.int .u8 0,.int .u8 0,.int .u8 0,.int .u8 0,.int .u8 0,.int .u8 0,.int .u8 0,.int .u8 0,.int .u8 0,.int .u8 0,.int .u8 0,.int .u8 0,.int .u8 0,.int .u8 0,.int .u8 0,.int .u8 0,.int .u8 0,.int .u8 0,.int .u8 0,.int .u8 0,.int .u8 0,.int .u8 0,.int .u8 0,.int .u8 0,.int .u8 0,.int .u8 0,.int .u8 0,.int .u8 0,.int .u8 0,.int .u8 0,.int .u8 0,.int .u8 0,.int .u8 0,.int .u8 0,.int .u8 0,.int .u8 0,.int .u8 0,.int .u8 0,.int .u8 0,.int .u8 0,.int .u8 0,.int .u8 0,.int .u8 0,.int .u8 0,.int .u8 0,.int .u8 0,.int .u8 0,.int .u8 0,.int .u8 0,.int .u8 0,.int .u8 0,.int .u8 0,.int .u8 0,.int .u8 0,.int .u8 0,.int .u8 0,.int .u8 0,.int .u8 0,.int .u8 0,.int .u8 0,.int .u8 0,.int .u8 0,.int .u8 0,.int .u8 0,.int .u8 0,.int .u8 0,.int .u8 0,.int .u8 0,.int .u8 0,.int .u8 0,.int .u8 0,.int .u8 0,.int .u8 0,.int .u8 0,.int .u8 0,.int .u8 0,.int .u8 0,.int .u8 0,.int .u8 0,.int .u8 0,.int .u8 0,.int .u8 0,.int .u8 0,.int .u8 0,.int .u8 0,.int .u8 0,.int .u8 0,.int .u8 0,.int .u8 0,.int .u8 0,.int .u8 0,.int .u8 0,.int .u8 0,.int .u8 0,.int .u8 0,.int .u8 0,.int .u8 0,.int .u8 0,.int .u8 0,.int .u8 0,.int .u8 0,.int .u8 0,.int .u8 0,.int .u8 0,.int .u8 0,.int .u8 0,.int .u8 0,.int .u8 0,.int .u8 0,.int .u8 0,.int .u8 0,.int .u8 0,.int .u8 0,.int .u8 0,.int .u8 0,.int .u8 0,.int .u8 0,.int .u8 0,.int .u8 0,.int .u8 0,.int .u8 0,.int .u8 0,.int .u8 0,.int .u8 0,.int .u8 0,.int .u8 0,.int .u8 0,.int .u8 0,.int .u8 0,.int .u8 0,.int .u8 0,.int .u8 0,.int .u8 0,.int .u8 0,.int .u8 0,.int .u8 0,.int .u8 0,.int .u8 0,.int .u8 0,.int .u8 0,.int .u8 0,.int .u8 0,.int .u8 0,.int .u8 0,.int .u8 0,.int .u8 0,.int .u8 0,.int .u8 0,.int .u8 0,.int .u8 0,.int .u8 0,.int .u8 0,.int .u8 0,.int .u8 0,.int .u8 0,.int .u8 0,.int .u8 0,.int .u8 0,.int .u8 0,.int .u8 0,.int .u8 0,.int .u8 0,.int .u8 0,.int .u8 0,.int .u8 0,.int .u8 0,.int .u8 0,.int .u8 0,.int .u8 0,.int .u8 0,.int .u8 0,.int .u8 0,.int .u8 0,.int .u8 0,.int .u8 0,.int .u8 0,.int .u8 0,.int .u8 0,.int .u8 0,.int .u8 0,.int .u8 0,.int .u8 0,.int .u8 0,.int .u8 0,.int .u8 0,.int .u8 0,.int .u8 0,.int .u8 0,.int .u8 0,.int .u8 0,.int .u8 0,.int .u8 0,.int .u8 0,.int .u8 0,.int .u8 0,.int .u8 0,.int .u8 0,.int .u8 0,.int .u8 0,.int .u8 0,.int .u8 0,.int .u8 0,.int .u8 0,.int .u8 0,.int .u8 0,.int .u8 0,.int .u8 0,.int .u8 0,.int .u8 0,.int .u8 0,.int .u8 0,.int .u8 0,.int .u8 0,.int .u8 0,.int .u8 0,.int .u8 0,.int .u8 0,.int .u8 0,.int .u8 0,.int .u8 0,.int .u8 0,.int .u8 0,.int .u8 0,.int .u8 0,.int .u8 0,.int .u8 0,.int .u8 0,.int .u8 0,.int .u8 0,.int .u8 0,.int .u8 0,.int .u8 0,.int .u8 0,.int .u8 0,.int .u8 0,.int .u8 0,.int .u8 0,.int .u8 0,.int .u8 0,.int .u8 0,.int .u8 0,.int .u8 0,.int .u8 0,.int .u8 0,.int .u8 0,.int .u8 0,.int .u8 0,.int .u8 0,.int .u8 0],size:=256,bytes:=256,td:={agg:=true,arr:=some (256,5)}}
instance:Tc 359 Af6:=⟨.a⟩
def Af7:TI:={zero:=[.int .u8 0,.int .u8 0],size:=2,bytes:=2,td:={agg:=true,struct:=true,flds:=[(0,some 1,some false),(1,some 1,some false)]},eqs:=some [(0,0),(1,0)]}
instance:Tc 360 Af7:=⟨.a⟩
def Af8:TI:={zero:=[.int .u8 0,.int .u8 0],size:=2,bytes:=2,td:={agg:=true,struct:=true,flds:=[(0,some 1,some false),(1,some 1,some false)]},eqs:=some [(0,0),(1,0)]}
instance:Tc 361 Af8:=⟨.a⟩
def Af9:TI:={zero:=[.int .u8 0,.int .u8 0,.int .u8 0,.int .u8 0,.int .u8 0,.int .u8 0,.int .u8 0,.int .u8 0,.int .u8 0,.int .u8 0,.int .u8 0,.int .u8 0,.int .u8 0,.int .u8 0,.int .u8 0,.int .u8 0,.int .u8 0,.int .u8 0,.int .u8 0,.int .u8 0,.int .u8 0,.int .u8 0,.int .u8 0,.int .u8 0,.int .u8 0,.int .u8 0,.int .u8 0,.int .u8 0,.int .u8 0,.int .u8 0,.int .u8 0,.int .u8 0],size:=32,bytes:=32,td:={agg:=true,arr:=some (16,361)}}
instance:Tc 362 Af9:=⟨.a⟩
def AfA:TI:={zero:=[.int .u8 0,.int .u8 0,.int .u8 0,.int .u8 0,.int .u8 0,.int .u8 0,.int .u8 0,.int .u8 0,.int .u8 0,.int .u8 0,.int .u8 0,.int .u8 0,.int .u8 0,.int .u8 0,.int .u8 0,.int .u8 0,.int .u8 0,.int .u8 0,.int .u8 0,.int .u8 0,.int .u8 0,.int .u8 0,.int .u8 0,.int .u8 0,.int .u8 0,.int .u8 0,.int .u8 0,.int .u8 0,.int .u8 0,.int .u8 0,.int .u8 0,.int .u8 0],size:=32,bytes:=32,td:={agg:=true,arr:=some (32,5)}}
instance:Tc 385 AfA:=⟨.a⟩
def AfB:TI:={zero:=[.int .u8 0,.int .u8 0,.int .u8 0,.int .u8 0,.int .u8 0,.int .u8 0,.int .u8 0,.int .u8 0,.int .u8 0,.int .u8 0,.int .u8 0,.int .u8 0,.int .u8 0,.int .u8 0,.int .u8 0,.int .u8 0,.int .u8 0,.int .u8 0,.int .u8 0,.int .u8 0,.int .u8 0,.int .u8 0,.int .u8 0,.int .u8 0,.int .u8 0,.int .u8 0,.int .u8 0,.int .u8 0,.int .u8 0,.int .u8 0,.int .u8 0,.int .u8 0,.int .u8 0,.int .u8 0,.int .u8 0,.int .u8 0,.int .u8 0,.int .u8 0,.int .u8 0,.int .u8 0,.int .u8 0,.int .u8 0,.int .u8 0,.int .u8 0,.int .u8 0,.int .u8 0,.int .u8 0,.int .u8 0,.int .u8 0,.int .u8 0,.int .u8 0,.int .u8 0,.int .u8 0,.int .u8 0,.int .u8 0,.int .u8 0,.int .u8 0,.int .u8 0,.int .u8 0,.int .u8 0,.int .u8 0,.int .u8 0,.int .u8 0,.int .u8 0],size:=64,bytes:=64,td:={agg:=true,arr:=some (64,5)}}
instance:Tc 386 AfB:=⟨.a⟩
def AfC:TI:={zero:=[.pointer none,.pointer none,.pointer none,.string ⟨#[]⟩],size:=4,bytes:=40,td:={agg:=true,struct:=true,flds:=[(0,some 1,some false),(1,some 1,some false),(2,some 1,some false),(3,some 1,some false)]}}
instance:Tc 392 AfC:=⟨.a⟩
def AfD:TI:={zero:=[.pointer none,.pointer none,.pointer none,.string ⟨#[]⟩],size:=4,bytes:=40,td:={agg:=true,struct:=true,flds:=[(0,some 1,some false),(1,some 1,some false),(2,some 1,some false),(3,some 1,some false)]}}
instance:Tc 393 AfD:=⟨.a⟩
def AfE:TI:={zero:=[],size:=0,bytes:=0,td:={agg:=true,arr:=some (0,16)}}
instance:Tc 394 AfE:=⟨.a⟩
def AfF:TI:={zero:=[],size:=0,bytes:=0,td:={agg:=true,struct:=true,flds:=[(0,some 0,some true)]}}
instance:Tc 395 AfF:=⟨.a⟩
def AfG:TI:={zero:=[],size:=0,bytes:=0,td:={agg:=true,struct:=true,flds:=[(0,some 0,some true)]}}
instance:Tc 396 AfG:=⟨.a⟩
def AfH:TI:={zero:=[.int .u8 0],size:=1,bytes:=1,td:={ik:=some .u8}}
instance:Tc 398 AfH:=⟨.a⟩
def AfI:TI:={zero:=[.int .u8 0],size:=1,bytes:=1,td:={ik:=some .u8}}
instance:Tc 399 AfI:=⟨.a⟩
def AfJ:TI:={zero:=[.nilFunc],size:=1,bytes:=8,td:={}}
instance:Tc 400 AfJ:=⟨.a⟩
def AfK:TI:={zero:=[.int .i32 0],size:=1,bytes:=4,td:={ik:=some .i32}}
instance:Tc 401 AfK:=⟨.a⟩
def AfL:TI:={zero:=[.int .i32 0],size:=1,bytes:=4,td:={ik:=some .i32}}
instance:Tc 402 AfL:=⟨.a⟩
def AfM:TI:={zero:=[.int .u64 0,.int .u64 0,.int .u32 0,.int .u8 0,.int .u8 0,.int .u8 0,.int .u8 0,.nilFunc,.pointer none,.int .i32 0,.int .i32 0],size:=11,bytes:=48,td:={agg:=true,struct:=true,flds:=[(0,some 1,some false),(1,some 1,some false),(2,some 1,some false),(3,some 1,some false),(4,some 1,some false),(5,some 1,some false),(6,some 1,some false),(7,some 1,some false),(8,some 1,some false),(9,some 1,some false),(10,some 1,some false)]}}
instance:Tc 403 AfM:=⟨.a⟩
def AfN:TI:={zero:=[.int .u64 0,.int .u64 0,.int .u32 0,.int .u8 0,.int .u8 0,.int .u8 0,.int .u8 0,.nilFunc,.pointer none,.int .i32 0,.int .i32 0],size:=11,bytes:=48,td:={agg:=true,struct:=true,flds:=[(0,some 1,some false),(1,some 1,some false),(2,some 1,some false),(3,some 1,some false),(4,some 1,some false),(5,some 1,some false),(6,some 1,some false),(7,some 1,some false),(8,some 1,some false),(9,some 1,some false),(10,some 1,some false)]}}
instance:Tc 404 AfN:=⟨.a⟩
def AfO:TI:={zero:=[.slice none 0 0],size:=1,bytes:=24,td:={elem:=some 408}}
instance:Tc 405 AfO:=⟨.a⟩
def AfP:TI:={zero:=[.string ⟨#[]⟩,.nilFunc],size:=2,bytes:=24,td:={agg:=true,struct:=true,flds:=[(0,some 1,some false),(1,some 1,some false)]}}
instance:Tc 407 AfP:=⟨.a⟩
def AfQ:TI:={zero:=[.string ⟨#[]⟩,.nilFunc],size:=2,bytes:=24,td:={agg:=true,struct:=true,flds:=[(0,some 1,some false),(1,some 1,some false)]}}
instance:Tc 408 AfQ:=⟨.a⟩
def AfR:TI:={zero:=[.nilFunc],size:=1,bytes:=8,td:={}}
instance:Tc 413 AfR:=⟨.a⟩
def Arw:Bd:=fun t=>match t with
 |1=>some ti1
 |2=>some ti2
 |3=>some ti3
 |4=>some ti4
 |5=>some ti5
 |6=>some ti6
 |7=>some ti7
 |8=>some ti8
 |9=>some ti9
 |10=>some Aqx
 |11=>some Aqy
 |12=>some Aqz
 |13=>some Aq0
 |14=>some Aq1
 |15=>some Aq2
 |16=>some Aq3
 |17=>some Aq4
 |18=>some Aq5
 |19=>some Aq6
 |20=>some Aq7
 |21=>some Aq8
 |22=>some Aq9
 |23=>some AqA
 |24=>some AqB
 |25=>some AqC
 |26=>some AqD
 |27=>some AqE
 |30=>some AqF
 |33=>some AqG
 |37=>some AqH
 |38=>some AqI
 |39=>some AqJ
 |40=>some AqK
 |43=>some AqL
 |44=>some AqM
 |45=>some AqN
 |48=>some AqO
 |49=>some AqP
 |50=>some AqQ
 |51=>some AqR
 |_=>none
theorem Arx:Am Tryz.prog Arw:=by intro t i h;unfold Arw at h;split at h;all_goals first|(cases h;done)|(injection h with h;subst h;exact Tc.h)
def Ary:Bd:=fun t=>match t with
 |52=>some AqS
 |53=>some AqT
 |54=>some AqU
 |56=>some AqV
 |57=>some AqW
 |59=>some AqX
 |60=>some AqY
 |61=>some AqZ
 |62=>some Ara
 |63=>some Arb
 |65=>some Arc
 |66=>some Ard
 |67=>some Are
 |68=>some Arf
 |69=>some Arh
 |70=>some Ari
 |74=>some Arj
 |79=>some Ark
 |80=>some Arl
 |81=>some Arm
 |82=>some Arn
 |86=>some Aro
 |87=>some Arp
 |88=>some Arq
 |89=>some Arr
 |91=>some Ars
 |96=>some Art
 |97=>some Aru
 |98=>some Arv
 |101=>some Aes
 |102=>some Aet
 |118=>some Aeu
 |119=>some Aev
 |123=>some Aew
 |127=>some Aex
 |129=>some Aey
 |130=>some Aez
 |131=>some Ae0
 |133=>some Ae1
 |134=>some Ae2
 |_=>none
theorem Arz:Am Tryz.prog Ary:=by intro t i h;unfold Ary at h;split at h;all_goals first|(cases h;done)|(injection h with h;subst h;exact Tc.h)
def Ar0:Bd:=fun t=>match t with
 |135=>some Ae3
 |137=>some Ae4
 |139=>some Ae5
 |140=>some Ae6
 |141=>some Ae7
 |142=>some Ae8
 |143=>some Ae9
 |144=>some AeA
 |145=>some AeB
 |153=>some AeC
 |156=>some AeD
 |158=>some AeE
 |159=>some AeF
 |162=>some AeG
 |163=>some AeH
 |164=>some AeI
 |165=>some AeJ
 |167=>some AeK
 |168=>some AeL
 |170=>some AeM
 |171=>some AeN
 |172=>some AeO
 |173=>some AeP
 |174=>some AeQ
 |177=>some AeR
 |178=>some AeS
 |179=>some AeT
 |191=>some AeU
 |192=>some AeV
 |194=>some AeW
 |195=>some AeX
 |197=>some AeY
 |199=>some AeZ
 |202=>some Afa
 |205=>some Afb
 |213=>some Afc
 |220=>some Afd
 |223=>some Afe
 |226=>some Aff
 |227=>some Afg
 |_=>none
theorem Ar1:Am Tryz.prog Ar0:=by intro t i h;unfold Ar0 at h;split at h;all_goals first|(cases h;done)|(injection h with h;subst h;exact Tc.h)
def Ar2:Bd:=fun t=>match t with
 |229=>some Afh
 |230=>some Afi
 |231=>some Afj
 |233=>some Afk
 |234=>some Afl
 |263=>some Afm
 |264=>some Afn
 |265=>some Afo
 |267=>some Afp
 |270=>some Afq
 |271=>some Afr
 |275=>some Afs
 |284=>some Aft
 |285=>some Afu
 |287=>some Afv
 |299=>some Afw
 |317=>some Afx
 |320=>some Afy
 |326=>some Afz
 |327=>some Af0
 |328=>some Af1
 |329=>some Af2
 |331=>some Af3
 |334=>some Af4
 |335=>some Af5
 |359=>some Af6
 |360=>some Af7
 |361=>some Af8
 |362=>some Af9
 |385=>some AfA
 |386=>some AfB
 |392=>some AfC
 |393=>some AfD
 |394=>some AfE
 |395=>some AfF
 |396=>some AfG
 |398=>some AfH
 |399=>some AfI
 |400=>some AfJ
 |401=>some AfK
 |_=>none
theorem Ar3:Am Tryz.prog Ar2:=by intro t i h;unfold Ar2 at h;split at h;all_goals first|(cases h;done)|(injection h with h;subst h;exact Tc.h)
def Ar4:Bd:=fun t=>match t with
 |402=>some AfL
 |403=>some AfM
 |404=>some AfN
 |405=>some AfO
 |407=>some AfP
 |408=>some AfQ
 |413=>some AfR
 |_=>none
theorem Ar5:Am Tryz.prog Ar4:=by intro t i h;unfold Ar4 at h;split at h;all_goals first|(cases h;done)|(injection h with h;subst h;exact Tc.h)
def Wd (a b:Bd):Bd:=fun t=>match a t with
 |some i=>some i
 |none=>b t
theorem N8 {P:Program} {a b:Bd} (ha:Am P a) (hb:Am P b):Am P (Wd a b):=by
 intro t i h;unfold Wd at h;split at h
 ·rename_i j hj;injection h with h;subst h;exact ha t _ hj
 ·exact hb t i h
def TT:Bd:=(Wd Arw (Wd Ary (Wd Ar0 (Wd Ar2 Ar4))))
theorem Bo:Am Tryz.prog TT:=(N8 Arx (N8 Arz (N8 Ar1 (N8 Ar3 Ar5))))
theorem tt1:TT 1=some ti1:=rfl
theorem tt2:TT 2=some ti2:=rfl
theorem tt3:TT 3=some ti3:=rfl
theorem tt4:TT 4=some ti4:=rfl
theorem tt5:TT 5=some ti5:=rfl
theorem tt6:TT 6=some ti6:=rfl
theorem tt7:TT 7=some ti7:=rfl
theorem tt8:TT 8=some ti8:=rfl
theorem tt9:TT 9=some ti9:=rfl
theorem AzZ:TT 10=some Aqx:=rfl
theorem A0a:TT 11=some Aqy:=rfl
theorem A0b:TT 12=some Aqz:=rfl
theorem A0c:TT 13=some Aq0:=rfl
theorem A0d:TT 14=some Aq1:=rfl
theorem A0e:TT 15=some Aq2:=rfl
theorem A0f:TT 16=some Aq3:=rfl
theorem A0g:TT 17=some Aq4:=rfl
theorem A0h:TT 18=some Aq5:=rfl
theorem A0i:TT 19=some Aq6:=rfl
theorem A0j:TT 20=some Aq7:=rfl
theorem A0k:TT 21=some Aq8:=rfl
theorem A0l:TT 22=some Aq9:=rfl
theorem A0m:TT 23=some AqA:=rfl
theorem A0n:TT 24=some AqB:=rfl
theorem A0o:TT 25=some AqC:=rfl
theorem A0p:TT 26=some AqD:=rfl
theorem A0q:TT 27=some AqE:=rfl
theorem A0r:TT 30=some AqF:=rfl
theorem A0s:TT 33=some AqG:=rfl
theorem A0t:TT 37=some AqH:=rfl
theorem A0u:TT 38=some AqI:=rfl
theorem A0v:TT 39=some AqJ:=rfl
theorem A0w:TT 40=some AqK:=rfl
theorem A0x:TT 43=some AqL:=rfl
theorem A0y:TT 44=some AqM:=rfl
theorem A0z:TT 45=some AqN:=rfl
theorem A00:TT 48=some AqO:=rfl
theorem A01:TT 49=some AqP:=rfl
theorem A02:TT 50=some AqQ:=rfl
theorem A03:TT 51=some AqR:=rfl
theorem A04:TT 52=some AqS:=rfl
theorem A05:TT 53=some AqT:=rfl
theorem A06:TT 54=some AqU:=rfl
theorem A07:TT 56=some AqV:=rfl
theorem A08:TT 57=some AqW:=rfl
theorem A09:TT 59=some AqX:=rfl
theorem A0A:TT 60=some AqY:=rfl
theorem A0B:TT 61=some AqZ:=rfl
theorem A0C:TT 62=some Ara:=rfl
theorem A0D:TT 63=some Arb:=rfl
theorem A0E:TT 65=some Arc:=rfl
theorem A0F:TT 66=some Ard:=rfl
theorem A0G:TT 67=some Are:=rfl
theorem A0H:TT 68=some Arf:=rfl
theorem A0I:TT 69=some Arh:=rfl
theorem A0J:TT 70=some Ari:=rfl
theorem A0K:TT 74=some Arj:=rfl
theorem A0L:TT 79=some Ark:=rfl
theorem A0M:TT 80=some Arl:=rfl
theorem A0N:TT 81=some Arm:=rfl
theorem A0O:TT 82=some Arn:=rfl
theorem A0P:TT 86=some Aro:=rfl
theorem A0Q:TT 87=some Arp:=rfl
theorem A0R:TT 88=some Arq:=rfl
theorem A0S:TT 89=some Arr:=rfl
theorem A0T:TT 91=some Ars:=rfl
theorem A0U:TT 96=some Art:=rfl
theorem A0V:TT 97=some Aru:=rfl
theorem A0W:TT 98=some Arv:=rfl
theorem AuG:TT 101=some Aes:=rfl
theorem AuQ:TT 102=some Aet:=rfl
theorem AuR:TT 118=some Aeu:=rfl
theorem AuZ:TT 119=some Aev:=rfl
theorem Ava:TT 123=some Aew:=rfl
theorem Avf:TT 127=some Aex:=rfl
theorem Avm:TT 129=some Aey:=rfl
theorem Avn:TT 130=some Aez:=rfl
theorem Avo:TT 131=some Ae0:=rfl
theorem Avp:TT 133=some Ae1:=rfl
theorem Avq:TT 134=some Ae2:=rfl
theorem Avr:TT 135=some Ae3:=rfl
theorem Avs:TT 137=some Ae4:=rfl
theorem Avt:TT 139=some Ae5:=rfl
theorem Avu:TT 140=some Ae6:=rfl
theorem Avv:TT 141=some Ae7:=rfl
theorem Avw:TT 142=some Ae8:=rfl
theorem Avx:TT 143=some Ae9:=rfl
theorem Avy:TT 144=some AeA:=rfl
theorem Avz:TT 145=some AeB:=rfl
theorem Av0:TT 153=some AeC:=rfl
theorem Av1:TT 156=some AeD:=rfl
theorem Av2:TT 158=some AeE:=rfl
theorem Av3:TT 159=some AeF:=rfl
theorem Av4:TT 162=some AeG:=rfl
theorem Av6:TT 163=some AeH:=rfl
theorem Av7:TT 164=some AeI:=rfl
theorem Av8:TT 165=some AeJ:=rfl
theorem Av9:TT 167=some AeK:=rfl
theorem AvA:TT 168=some AeL:=rfl
theorem AvB:TT 170=some AeM:=rfl
theorem AvI:TT 171=some AeN:=rfl
theorem AvJ:TT 172=some AeO:=rfl
theorem AvK:TT 173=some AeP:=rfl
theorem AvM:TT 174=some AeQ:=rfl
theorem AvN:TT 177=some AeR:=rfl
theorem AvO:TT 178=some AeS:=rfl
theorem AvP:TT 179=some AeT:=rfl
theorem AvQ:TT 191=some AeU:=rfl
theorem AvR:TT 192=some AeV:=rfl
theorem AvS:TT 194=some AeW:=rfl
theorem AvT:TT 195=some AeX:=rfl
theorem AvU:TT 197=some AeY:=rfl
theorem AvV:TT 199=some AeZ:=rfl
theorem AvW:TT 202=some Afa:=rfl
theorem AvX:TT 205=some Afb:=rfl
theorem AvY:TT 213=some Afc:=rfl
theorem AvZ:TT 220=some Afd:=rfl
theorem Awa:TT 223=some Afe:=rfl
theorem Awb:TT 226=some Aff:=rfl
theorem Awd:TT 227=some Afg:=rfl
theorem Aw6:TT 229=some Afh:=rfl
theorem Aw7:TT 230=some Afi:=rfl
theorem AwB:TT 231=some Afj:=rfl
theorem AwC:TT 233=some Afk:=rfl
theorem AwE:TT 234=some Afl:=rfl
theorem AwF:TT 263=some Afm:=rfl
theorem AwG:TT 264=some Afn:=rfl
theorem AwH:TT 265=some Afo:=rfl
theorem AwI:TT 267=some Afp:=rfl
theorem AwJ:TT 270=some Afq:=rfl
theorem AwK:TT 271=some Afr:=rfl
theorem AwL:TT 275=some Afs:=rfl
theorem AwM:TT 284=some Aft:=rfl
theorem AwN:TT 285=some Afu:=rfl
theorem AwO:TT 287=some Afv:=rfl
theorem AwP:TT 299=some Afw:=rfl
theorem AwQ:TT 317=some Afx:=rfl
theorem AwR:TT 320=some Afy:=rfl
theorem AwS:TT 326=some Afz:=rfl
theorem AwT:TT 327=some Af0:=rfl
theorem AwU:TT 328=some Af1:=rfl
theorem AwY:TT 329=some Af2:=rfl
theorem Axa:TT 331=some Af3:=rfl
theorem Axb:TT 334=some Af4:=rfl
theorem Axc:TT 335=some Af5:=rfl
theorem Axd:TT 359=some Af6:=rfl
theorem Axe:TT 360=some Af7:=rfl
theorem Axf:TT 361=some Af8:=rfl
theorem Axg:TT 362=some Af9:=rfl
theorem Axh:TT 385=some AfA:=rfl
theorem Axi:TT 386=some AfB:=rfl
theorem Axj:TT 392=some AfC:=rfl
theorem Axk:TT 393=some AfD:=rfl
theorem Axl:TT 394=some AfE:=rfl
theorem Axm:TT 395=some AfF:=rfl
theorem Axn:TT 396=some AfG:=rfl
theorem Axo:TT 398=some AfH:=rfl
theorem Azd:TT 399=some AfI:=rfl
theorem Aze:TT 400=some AfJ:=rfl
theorem Azf:TT 401=some AfK:=rfl
theorem Azg:TT 402=some AfL:=rfl
theorem Azh:TT 403=some AfM:=rfl
theorem Azi:TT 404=some AfN:=rfl
theorem Azj:TT 405=some AfO:=rfl
theorem Azk:TT 407=some AfP:=rfl
theorem Azl:TT 408=some AfQ:=rfl
theorem Azm:TT 413=some AfR:=rfl
attribute [go_sem] tt1 ti1 tt2 ti2 tt3 ti3 tt4 ti4 tt5 ti5 tt6 ti6 tt7 ti7 tt8 ti8 tt9 ti9 AzZ Aqx A0a Aqy A0b Aqz A0c Aq0 A0d Aq1 A0e Aq2 A0f Aq3 A0g Aq4 A0h Aq5 A0i Aq6 A0j Aq7 A0k Aq8 A0l Aq9 A0m AqA A0n AqB A0o AqC A0p AqD A0q AqE A0r AqF A0s AqG A0t AqH A0u AqI A0v AqJ A0w AqK A0x AqL A0y AqM A0z AqN A00 AqO A01 AqP A02 AqQ A03 AqR A04 AqS A05 AqT A06 AqU A07 AqV A08 AqW A09 AqX A0A AqY A0B AqZ A0C Ara A0D Arb A0E Arc A0F Ard A0G Are A0H Arf A0I Arh A0J Ari A0K Arj A0L Ark A0M Arl A0N Arm A0O Arn A0P Aro A0Q Arp A0R Arq A0S Arr A0T Ars A0U Art A0V Aru A0W Arv AuG Aes AuQ Aet AuR Aeu AuZ Aev Ava Aew Avf Aex Avm Aey Avn Aez Avo Ae0 Avp Ae1 Avq Ae2 Avr Ae3 Avs Ae4 Avt Ae5 Avu Ae6 Avv Ae7 Avw Ae8 Avx Ae9 Avy AeA Avz AeB Av0 AeC Av1 AeD Av2 AeE Av3 AeF Av4 AeG Av6 AeH Av7 AeI Av8 AeJ Av9 AeK AvA AeL AvB AeM AvI AeN AvJ AeO AvK AeP AvM AeQ AvN AeR AvO AeS AvP AeT AvQ AeU AvR AeV AvS AeW AvT AeX AvU AeY AvV AeZ AvW Afa AvX Afb AvY Afc AvZ Afd Awa Afe Awb Aff Awd Afg Aw6 Afh Aw7 Afi AwB Afj AwC Afk AwE Afl AwF Afm AwG Afn AwH Afo AwI Afp AwJ Afq AwK Afr AwL Afs AwM Aft AwN Afu AwO Afv AwP Afw AwQ Afx AwR Afy AwS Afz AwT Af0 AwU Af1 AwY Af2 Axa Af3 Axb Af4 Axc Af5 Axd Af6 Axe Af7 Axf Af8 Axg Af9 Axh AfA Axi AfB Axj AfC Axk AfD Axl AfE Axm AfF Axn AfG Axo AfH Azd AfI Aze AfJ Azf AfK Azg AfL Azh AfM Azi AfN Azj AfO Azk AfP Azl AfQ Azm AfR
theorem Cq:Tryz.prog.follows .mixedOrders=true:=oK
end Go.Proofs.YtmophjggmekoeaaGreatDoor
