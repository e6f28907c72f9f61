/- Contracts and plain laws on the way to the statement: part 2. -/
import Derived.Lib.Bytealg
import Derived.Lib.IndexMore
import Derived.Test.YtbkemlgfdklpfaaGreatDoorV4
set_option linter.unusedVariables false
set_option linter.unusedSimpArgs false
set_option maxRecDepth 100000
set_option maxHeartbeats 16000000
namespace Go.Proofs.YtbkemlgfdklpfaaGreatDoor
open Go.Value (int)
open Go.IntKind (i64)
section
abbrev Nm:=List UInt8
structure Mov where
 mark:Int
 kind:Int
 side:Int
 dir:Int
 level:Int
 size:Int
 wn:Nm
 fa:Int
 fb:Int
 ta:Int
 tb:Int
deriving DecidableEq,Inhabited
inductive Its where
 | nil
 | cons (kind n:Int) (un:Nm) (its:Its) (ms:List Mov) (rest:Its)
deriving DecidableEq,Inhabited
structure Rol where
 name:Nm
 x:Int
 y:Int
 face:Int
deriving DecidableEq,Inhabited
structure Tmp where
 bar:Int
 ticks:Int
 step:Int
deriving DecidableEq,Inhabited
structure Pau where
 bar:Int
 kind:Int
 lo:Int
 hi:Int
deriving DecidableEq,Inhabited
structure Con where
 frm:Int
 to:Int
 lo:Int
 hi:Int
deriving DecidableEq,Inhabited
structure Phr where
 name:Nm
 items:Its
deriving DecidableEq,Inhabited
structure Dan where
 rn:Nm
 pn:Nm
 bar:Int
 mirror:Bool
deriving DecidableEq,Inhabited
structure Sc where
 name:Nm
 wd:Int
 dp:Int
 bars:Int
 t0:Int
 t1:Int
 roles:List Rol
 tempos:List Tmp
 pauses:List Pau
 spans:List Con
 phrases:List Phr
 dances:List Dan
deriving DecidableEq,Inhabited
def Its.len:Its→Nat
 | .nil=>0
 | .cons _ _ _ _ _ r=>r.len+1
def Dh(k:Int):Nat:=if k=7∨k=8 then 1 else 0
def By(k:Int):Nat:=if k=4 then 2 else 0
def Its.refs:Its→List (Nat×Nm)
 | .nil=>[]
 | .cons k _ un its ms r=>(By k,un)::(ms.map (λm=>(Dh m.kind,m.wn))++(its.refs++r.refs))
def Sc.refs(s:Sc):List (Nat×Nm):=s.phrases.flatMap (λp=>p.items.refs)++s.dances.flatMap (λd=>[(1,d.rn),(2,d.pn)])
def DV(m:Mov):Bool:=decide (1≤m.kind)&&decide (m.kind≤9)
def Its.kinds:Its→Bool
 | .nil=>true
 | .cons k _ _ its ms r=>(decide (1≤k)&&decide (k≤4))&&(ms.all DV&&(its.kinds&&r.kinds))
def Sc.kinds(s:Sc):Bool:=s.phrases.all λp=>p.items.kinds
def Its.count:Its→Nat→Int→Option Int
 | .nil,_,left=>some left
 | .cons _ _ _ its ms r,d,left =>
  if ms.length≤64∧(its.len:Int)≤left∧(its.len=0∨d+1≤16) then
   match its.count (d+1) (left-its.len) with
   | none=>none
   | some l=>r.count d l
  else none
def Its.countL(t:Its)(d:Nat)(left:Int):Option Int:=if (t.len:Int)≤left∧(t.len=0∨d≤16) then t.count d (left-t.len) else none
def countP:List Phr→Int→Option Int
 | [],left=>some left
 | p::r,left=>match p.items.countL 1 left with
  | none=>none
  | some l=>countP r l
def Sc.fit(s:Sc):Bool:=decide (s.roles.length≤64)&&(decide (s.tempos.length≤4096)&&(decide (s.pauses.length≤4096)&&(decide (s.spans.length≤256)&&(decide (s.phrases.length≤64)&&decide (s.dances.length≤256)))))
def Sc.lims(s:Sc):Bool:=s.fit&&(countP s.phrases 4096).isSome
def FP:List UInt8:=[123,125,40,41,59,44,61,58,46,60,62,33,43,45,42,47]
def cls(n:Nat):Int :=
 if (97≤n∧n≤122)∨(65≤n∧n≤90) then 2 else if 48≤n∧n≤57 then 3 else if n=95 then 5
 else if n=32∨n=9∨n=10∨n=13 then 1 else if 0≤Lib.indexByte FP (UInt8.ofNat n) then 4 else 0
def cl(c:UInt8):Int:=cls c.toNat
def GY(c:UInt8):Bool:=cl c==2
def Ec(c:UInt8):Bool:=cl c==2||cl c==3||cl c==5
def BA(l:Nm):Bool:=(match l with|[]=>false|c::_=>GY c)&&decide (l.length≤32)&&l.all Ec
def words:Nm:=[32,119,111,114,107,32,102,108,111,111,114,32,98,97,114,115,32,116,111,108,101,114,97,110,99,101,32,114,111,108,101,32,97,116,32,102,97,99,105,110,103,32,116,101,109,112,111,32,116,105,99,107,115,32,108,111,110,103,101,114,32,115,104,111,114,116,101,114,32,112,97,117,115,101,32,102,114,101,101,32,99,97,108,108,101,100,32,102,114,111,109,32,116,111,32,115,112,97,110,32,112,104,114,97,115,101,32,100,97,110,99,101,32,109,105,114,114,111,114,32,98,97,114,32,114,101,112,101,97,116,32,117,115,101,32,101,115,115,101,110,116,105,97,108,32,111,112,116,105,111,110,97,108,32,104,97,98,105,116,32,115,116,101,112,32,106,117,109,112,32,108,101,103,32,97,114,109,32,116,114,117,110,107,32,116,117,114,110,32,108,105,102,116,32,114,105,100,101,32,108,101,102,116,32,114,105,103,104,116,32,108,111,119,32,109,105,100,100,108,101,32,104,105,103,104,32,112,108,97,99,101,32,102,111,114,101,32,102,111,114,101,114,105,103,104,116,32,98,97,99,107,114,105,103,104,116,32,98,97,99,107,32,98,97,99,107,108,101,102,116,32,102,111,114,101,108,101,102,116,32]
def AG(s:Nm):Bool:=BA s&&!(Lib.contains words (32::(s++[32])))
def Sc.rnames(s:Sc):List Nm:=s.roles.map Rol.name
def Sc.pnames(s:Sc):List Nm:=s.phrases.map Phr.name
def Sc.named(s:Sc):Bool:=AG s.name&&(s.rnames.all AG&&s.pnames.all AG)
def Sc.apart(s:Sc):Bool:=decide s.rnames.Nodup&&decide s.pnames.Nodup
def Bt(roles phrases:List Nm)(r:Nat×Nm)(n:Int):Option Int :=
 if r.1=0 then (if r.2=[]∧n=0 then some 0 else none)
 else if r.1=1 then (if r.2∈roles then some (roles.idxOf r.2:Nat) else none)
 else (if r.2∈phrases then some (phrases.idxOf r.2:Nat) else none)
def Ay(roles phrases:List Nm):List (Nat×Nm)→List Int→Option (List Int)
 | [],[]=>some []
 | r::rs,n::ns=>match Bt roles phrases r n,Ay roles phrases rs ns with
  | some k,some ks=>some (k::ks)
  | _,_=>none
 | _,_=>none
def Sc.idx(s:Sc)(ns:List Int):Option (List Int):=if s.kinds then Ay s.rnames s.pnames s.refs ns else none
def Db(s:Sc)(ns:List Int):Int :=
 if s.lims=false then 2 else if s.named=false then 170 else if s.apart=false then 171 else if (s.idx ns).isSome then 0 else 170
def Dd(s:Sc)(ns:List Int):Int:=if Db s ns=0 then (if s.idx ns=some ns then 0 else 170) else Db s ns
end
section
theorem Q9{s:Sc}{ns:List Int}(h:Db s ns=0):s.lims=true∧s.named=true∧s.apart=true∧(s.idx ns).isSome=true:=by
 unfold Db at h
 split at h
 ·omega
 ·split at h
  ·omega
  ·split at h
   ·omega
   ·split at h
    ·rename_i h1 h2 h3 h4
     exact ⟨by simpa using h1,by simpa using h2,by simpa using h3,h4⟩
    ·omega
end
end Go.Proofs.YtbkemlgfdklpfaaGreatDoor
