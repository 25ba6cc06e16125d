/- Own work: texts of the proof of a law (SzCore). No condition. -/
import Derived.CallsIn
import Derived.OrdersIn
import Derived.RangeFuncLeaves
namespace Go
theorem a0A:type_of% @List.getD_eq_getElem?_getD:=@List.getD_eq_getElem?_getD
theorem a0B:type_of% @List.getElem?_eq_some_iff:=@List.getElem?_eq_some_iff
theorem a0C:type_of% @List.getElem?_eq_getElem:=@List.getElem?_eq_getElem
theorem a0D:type_of% @Bool.and_eq_true:=@Bool.and_eq_true
theorem a0E:type_of% @Int.toNat_natCast:=@Int.toNat_natCast
theorem a0F:type_of% @List.getElem?_append_left:=@List.getElem?_append_left
theorem a0G:type_of% @List.getElem?_set:=@List.getElem?_set
theorem a0H:type_of% @Nat.mul_le_mul_right:=@Nat.mul_le_mul_right
theorem a0I:type_of% @Nat.lt_or_eq_of_le:=@Nat.lt_or_eq_of_le
theorem a0J:type_of% @List.length_take:=@List.length_take
theorem a0K:type_of% @Nat.le_refl:=@Nat.le_refl
theorem a0L:type_of% @Array.getElem?_eq_some_iff:=@Array.getElem?_eq_some_iff
theorem a0M:type_of% @List.length_append:=@List.length_append
theorem a0N:type_of% @List.getElem_mem:=@List.getElem_mem
theorem a0O:type_of% @Classical.not_not:=@Classical.not_not
theorem a0P:type_of% @Nat.le_of_ble_eq_true:=@Nat.le_of_ble_eq_true
theorem a0Q:type_of% @Classical.byContradiction:=@Classical.byContradiction
theorem a0R:type_of% @List.getElem?_drop:=@List.getElem?_drop
theorem a0S:type_of% @List.getElem?_append_right:=@List.getElem?_append_right
theorem a0T:type_of% @List.pairwise_iff_getElem:=@List.pairwise_iff_getElem
theorem a0U:type_of% @List.mem_append:=@List.mem_append
theorem a0V:type_of% @List.getElem?_eq_none:=@List.getElem?_eq_none
theorem a0W:type_of% @Nat.add_mul:=@Nat.add_mul
theorem a0X:type_of% @List.mem_of_mem_take:=@List.mem_of_mem_take
theorem a0Y:type_of% @List.mem_of_mem_drop:=@List.mem_of_mem_drop
theorem a0Z:type_of% @List.mem_cons:=@List.mem_cons
theorem a1A:type_of% @List.getElem_of_mem:=@List.getElem_of_mem
theorem a1B:type_of% @List.mem_singleton:=@List.mem_singleton
theorem a1C:type_of% @List.getElem?_take:=@List.getElem?_take
theorem a1D:type_of% @List.take_succ_eq_append_getElem:=@List.take_succ_eq_append_getElem
theorem a1E:type_of% @List.length_drop:=@List.length_drop
theorem a1F:type_of% @List.mem_range:=@List.mem_range
theorem a1G:type_of% @List.getElem?_append:=@List.getElem?_append
theorem a1H:type_of% @Option.some.injEq:=@Option.some.injEq
theorem a1I:type_of% @Int.tmod_eq_emod_of_nonneg:=@Int.tmod_eq_emod_of_nonneg
theorem a1J:type_of% @List.ext_getElem?:=@List.ext_getElem?
theorem a1K:type_of% @List.length_eq_one_iff:=@List.length_eq_one_iff
theorem a1L:type_of% @List.length_map:=@List.length_map
theorem a1M:type_of% @Nat.lt_of_lt_of_le:=@Nat.lt_of_lt_of_le
theorem a1N:type_of% @Nat.lt_or_ge:=@Nat.lt_or_ge
theorem a1O:type_of% @List.getElem?_map:=@List.getElem?_map
theorem a1P:type_of% @List.append_assoc:=@List.append_assoc
theorem a1Q:type_of% @Int.le_refl:=@Int.le_refl
theorem a1R:type_of% @List.eq_nil_of_length_eq_zero:=@List.eq_nil_of_length_eq_zero
theorem a1S:type_of% @List.drop_append_of_le_length:=@List.drop_append_of_le_length
theorem a1T:type_of% @List.take_append_drop:=@List.take_append_drop
theorem a1U:type_of% @List.getElem?_take_of_lt:=@List.getElem?_take_of_lt
theorem a1V:type_of% @List.mem_cons_self:=@List.mem_cons_self
theorem a1W:type_of% @Array.getD_eq_getD_getElem?:=@Array.getD_eq_getD_getElem?
theorem a1X:type_of% @Nat.zero_le:=@Nat.zero_le
theorem a1Y:type_of% @List.mem_of_getElem?:=@List.mem_of_getElem?
theorem a1Z:type_of% @Option.some.inj:=@Option.some.inj
theorem a2A:type_of% @List.drop_eq_getElem_cons:=@List.drop_eq_getElem_cons
theorem a2B:type_of% @List.size_toArray:=@List.size_toArray
theorem a2C:type_of% @Nat.le_of_lt_succ:=@Nat.le_of_lt_succ
theorem a2D:type_of% @List.mem_append_left:=@List.mem_append_left
theorem a2E:type_of% @List.pairwise_append:=@List.pairwise_append
theorem a2F:type_of% @List.take_take:=@List.take_take
theorem a2G:type_of% @List.all_eq_true:=@List.all_eq_true
theorem a2H:type_of% @List.length_set:=@List.length_set
theorem a2I:type_of% @Nat.mul_le_mul:=@Nat.mul_le_mul
theorem a2J:type_of% @List.drop_of_length_le:=@List.drop_of_length_le
theorem a2K:type_of% @List.mem_cons_of_mem:=@List.mem_cons_of_mem
theorem a2L:type_of% @List.ext_getElem:=@List.ext_getElem
theorem a2M:type_of% @List.take_length:=@List.take_length
theorem a2N:type_of% @Bool.false_eq_true:=@Bool.false_eq_true
theorem a2O:type_of% @Nat.add_zero:=@Nat.add_zero
theorem a2P:type_of% @List.eq_nil_iff_forall_not_mem:=@List.eq_nil_iff_forall_not_mem
theorem a2Q:type_of% @List.getElem?_take_eq_none:=@List.getElem?_take_eq_none
theorem a2R:type_of% @List.length_cons:=@List.length_cons
theorem a2S:type_of% @Option.getD_some:=@Option.getD_some
theorem a2T:type_of% @List.take_append_of_le_length:=@List.take_append_of_le_length
theorem a2U:type_of% @Nat.le_of_not_lt:=@Nat.le_of_not_lt
theorem a2V:type_of% @List.mem_map:=@List.mem_map
theorem a2W:type_of% @Iff.rfl:=@Iff.rfl
theorem a2X:type_of% @Option.isSome_iff_exists:=@Option.isSome_iff_exists
theorem a2Y:type_of% @Array.length_toList:=@Array.length_toList
theorem a2Z:type_of% @List.pairwise_map:=@List.pairwise_map
theorem a3A:type_of% @List.foldl_append:=@List.foldl_append
theorem a3B:type_of% @Nat.zero_add:=@Nat.zero_add
theorem a3C:type_of% @Nat.eq_zero_or_pos:=@Nat.eq_zero_or_pos
theorem a3D:type_of% @List.pairwise_cons:=@List.pairwise_cons
theorem a3E:type_of% @Array.getElem?_push:=@Array.getElem?_push
theorem a3F:type_of% @Int.toNat_of_nonneg:=@Int.toNat_of_nonneg
theorem a3G:type_of% @Nat.lt_trichotomy:=@Nat.lt_trichotomy
theorem a3H:type_of% @Array.getElem?_setIfInBounds:=@Array.getElem?_setIfInBounds
theorem a3I:type_of% @List.drop_take:=@List.drop_take
theorem a3J:type_of% @List.mem_filter:=@List.mem_filter
theorem a3K:type_of% @List.filter_append:=@List.filter_append
theorem a3L:type_of% @Array.toArray_toList:=@Array.toArray_toList
theorem a3M:type_of% @Array.toList_map:=@Array.toList_map
theorem a3N:type_of% @List.take_of_length_le:=@List.take_of_length_le
theorem a3O:type_of% @List.filter_eq_nil_iff:=@List.filter_eq_nil_iff
theorem a3P:type_of% @Bool.not_eq_true':=@Bool.not_eq_true'
theorem a3Q:type_of% @List.length_range:=@List.length_range
theorem a3R:type_of% @List.drop_drop:=@List.drop_drop
theorem a3S:type_of% @Nat.le_trans:=@Nat.le_trans
theorem a3T:type_of% @Array.getElem?_toList:=@Array.getElem?_toList
theorem a3U:type_of% @Option.map_some:=@Option.map_some
theorem a3V:type_of% @List.append_nil:=@List.append_nil
theorem a3W:type_of% @Bool.or_eq_true:=@Bool.or_eq_true
theorem a3X:type_of% @Bool.not_eq_true:=@Bool.not_eq_true
theorem a3Y:type_of% @List.map_cons:=@List.map_cons
theorem a3Z:type_of% @Int.le_trans:=@Int.le_trans
theorem a4A:type_of% @List.nil_append:=@List.nil_append
theorem a4B:type_of% @List.filter_eq_self:=@List.filter_eq_self
end Go
namespace Go.Sx
open Go
noncomputable section
structure MG where
  born:List Int→Nat
  clock:Nat
inductive X where
  |emp
  |stamp (g:MG) (k:List Int)
  |awin (id off sz n cap:Nat)
  |twin (id n:Nat)
def X.fo:X→Bool
  |.emp=>true
  |.stamp _ _=>true
  |.awin _ _ _ _ _=>false
  |.twin _ _=>false
def X.sh (n:Nat):X→X
  |.emp=>.emp
  |.stamp g k=>.stamp g k
  |.awin id off sz m c=>.awin (n+id) off sz m c
  |.twin id m=>.twin (n+id) m
inductive V where
  |int (k:IntKind) (n:Int)
  |prop (p:Prop) (d:Decidable p)
  |kb (b:Bool)
  |ptr (id off:Nat)
  |eptr (id sz i off:Nat)
  |iptr (cs:List V)
  |sl (sz n:Nat) (f:Nat→List V)
  |osl (id n:Nat)
  |map (id:Nat)
  |fn (f:Fn) (first cap:List V)
  |agg (cs:List V)
  |tup (vs:List V)
  |lit (v:Value)
  |ite (p:Prop) (v:V)
  |sem (D:(Nat→Prop)→World→Value→Prop)
  |imap (ks:List IntKind) (ka va:Bool) (dom:List Int→Prop) (val:List Int→List V) (n:Nat)
  |yld (id:Nat)
  |win (id sz off n:Nat)
  |gsl (id i n:Nat) (e:Option Nat×Nat)
  |gptr (id i j off sz:Nat) (e:Option Nat×Nat)
  |x (e:X)
  |any
inductive LSt where
  |ready
  |busy
  |done (c:Code)
inductive O where
  |cells (ty:TypeId) (vs:List V)
  |row (ty:TypeId) (sz n:Nat) (f:Nat→List V) (nz:Bool)
  |map (ks:List IntKind) (ka va:Bool) (dom:List Int→Prop) (val:List Int→List V) (n:Nat) (g:MG)
  |iter (mid:Nat) (g:MG) (dom:List Int→Prop) (done:List (List Int))
  |loop (T:List V) (ps:List Nat) (assign body:Code) (st:LSt)
  |gone
  |mapx (ks:List IntKind) (ka va:Bool) (dom:List Int→Prop) (val:List Int→List V)
  |grid (ty ety:TypeId) (esz n:Nat) (m:Nat→Nat) (f:Nat→Nat→List V) (β:Nat→Option Nat×Nat) (hole:Option Nat) (nz:Bool)
inductive TK where
  |other
  |int (k:IntKind)
  |bool
  |struct (fs:List (Nat×Nat×TypeId))
  |array (n:Nat) (e:TypeId)
  |slice (e:TypeId)
  |map (k e:TypeId)
  |str
structure TI where
  known:Bool:=false
  size:Nat:=0
  bytes:Nat:=0
  kind:TK:=.other
  zero:Option (List V):=none
  eq:Bool:=false
abbrev Env:=List TI
def get {α:Type} (d:α):List α→Nat→α
  |[],_=>d
  |x :: _,0=>x
  |_ :: l,n+1=>get d l n
def set {α:Type}:List α→Nat→α→List α
  |[],_,_=>[]
  |_ :: l,0,y=>y :: l
  |x :: l,n+1,y=>x :: set l n y
def drop {α:Type}:Nat→List α→List α
  |0,l=>l
  |_+1,[]=>[]
  |n+1,_ :: l=>drop n l
def take {α:Type}:Nat→List α→List α
  |0,_=>[]
  |_+1,[]=>[]
  |n+1,x :: l=>x :: take n l
def splice {α:Type}:List α→Nat→List α→List α
  |l,_,[]=>l
  |l,i,x :: xs=>splice (set l i x) (i+1) xs
def len {α:Type}:List α→Nat
  |[]=>0
  |_ :: l=>len l+1
def spliceQ {α:Type} (l:List α) (i:Nat) (xs:List α):List α:=bif Nat.beq i 0 && Nat.beq (len xs) (len l) then xs else splice l i xs
def app {α:Type}:List α→List α→List α
  |[],l=>l
  |x :: k,l=>x :: app k l
def Env.ti (E:Env) (t:TypeId):TI:=get {} E t
def ofZ:Value→V
  |.int k n=>.int k n
  |.bool true=>.prop True inferInstance
  |.bool false=>.prop False inferInstance
  |v=>.lit v
def normV:V→V
  |.kb true=>.prop True inferInstance
  |.kb false=>.prop False inferInstance
  |v=>v
def normL:List V→List V
  |[]=>[]
  |v :: l=>normV v :: normL l
def ofC:Value→V
  |.int k n=>.int k n
  |.bool b=>.kb b
  |v=>.lit v
def V.strip:V→V
  |.ite _ v=>v
  |v=>v
def ev0 (T:List V):Operand→V
  |.tmp t=>get .any T t
  |.const v=>ofC v
  |.func f=>.fn (.func f) [] []
  |.global _=>.any
def ev (T:List V) (x:Operand):V:=(ev0 T x).strip
def evs (T:List V):List Operand→List V
  |[]=>[]
  |x :: l=>ev T x :: evs T l
abbrev KT:=List V→List O→Prop
mutual
def force:V→(V→Prop)→Prop
  |.int k n,K=>K (.int k n)
  |.prop p d,K=>K (.prop p d)
  |.kb true,K=>K (.kb true)
  |.kb false,K=>K (.kb false)
  |.ptr id off,K=>K (.ptr id off)
  |.eptr id sz i off,K=>K (.eptr id sz i off)
  |.iptr cs,K=>forceL cs fun cs=>K (.iptr cs)
  |.sl sz n f,K=>K (.sl sz n f)
  |.osl id n,K=>K (.osl id n)
  |.map id,K=>K (.map id)
  |.fn f a b,K=>forceL a fun a=>forceL b fun b=>K (.fn f a b)
  |.agg cs,K=>forceL cs fun cs=>K (.agg cs)
  |.tup cs,K=>forceL cs fun cs=>K (.tup cs)
  |.lit v,K=>K (.lit v)
  |.ite p v,K=>force v fun v=>K (.ite p v)
  |.sem D,K=>K (.sem D)
  |.imap ks ka va dom val n,K=>K (.imap ks ka va dom val n)
  |.yld id,K=>K (.yld id)
  |.win id sz off n,K=>K (.win id sz off n)
  |.gsl id i n e,K=>K (.gsl id i n e)
  |.gptr id i j off sz e,K=>K (.gptr id i j off sz e)
  |.x .emp,K=>K (.x .emp)
  |.x (.stamp g k),K=>K (.x (.stamp g k))
  |.x (.awin id off sz n c),K=>K (.x (.awin id off sz n c))
  |.x (.twin id n),K=>K (.x (.twin id n))
  |.any,K=>K .any
def forceL:List V→(List V→Prop)→Prop
  |[],K=>K []
  |v :: l,K=>force v fun v=>forceL l fun l=>K (v :: l)
end
def setK {α:Type}:List α→Nat→α→(List α→Prop)→Prop
  |[],_,_,K=>K []
  |_ :: l,0,y,K=>K (y :: l)
  |x :: l,n+1,y,K=>setK l n y fun l=>K (x :: l)
def pushK {α:Type}:List α→α→(List α→Prop)→Prop
  |[],y,K=>K [y]
  |x :: l,y,K=>pushK l y fun l=>K (x :: l)
def lenK {α:Type}:List α→(Nat→Prop)→Prop
  |[],K=>K 0
  |_ :: l,K=>lenK l fun n=>K (n+1)
def putK (T:List V) (dst:Option Tmp) (v:V) (K:List V→Prop):Prop:=
  match dst with
  |some d=>force v fun v=>setK T d v K
  |none=>K T
inductive PR where
  |bad
  |ok (v:V)
  |need (c:Prop) (v:V)
def inR (k:IntKind) (n:Int):Prop:=k.min≤n∧n≤k.max
def V.asProp:V→Option ((p:Prop)×Decidable p)
  |.prop p d=>some ⟨p,d⟩
  |.kb true=>some ⟨True,inferInstance⟩
  |.kb false=>some ⟨False,inferInstance⟩
  |_=>none
def bitsI (op:BinOp) (k:IntKind) (x y:Int):Int:=
  match op with
  |.and=>k.wrap (BitVec.ofInt k.bits x &&& BitVec.ofInt k.bits y).toNat
  |.or=>k.wrap (BitVec.ofInt k.bits x ||| BitVec.ofInt k.bits y).toNat
  |.xor=>k.wrap (BitVec.ofInt k.bits x ^^^ BitVec.ofInt k.bits y).toNat
  |_=>k.wrap (BitVec.ofInt k.bits x &&& ~~~BitVec.ofInt k.bits y).toNat
def binInt (op:BinOp) (k:IntKind) (a b:Int):PR:=
  match op with
  |.add=>.need (inR k (a+b)) (.int k (a+b))
  |.sub=>.need (inR k (a-b)) (.int k (a-b))
  |.mul=>.need (inR k (a*b)) (.int k (a*b))
  |.eql=>.ok (.prop (a=b) inferInstance)
  |.neq=>.ok (.prop (a≠b) inferInstance)
  |.lss=>.ok (.prop (a<b) inferInstance)
  |.leq=>.ok (.prop (a≤b) inferInstance)
  |.gtr=>.ok (.prop (b<a) inferInstance)
  |.geq=>.ok (.prop (b≤a) inferInstance)
  |.quo=>.need (b≠0∧inR k (a.tdiv b)) (.int k (a.tdiv b))
  |.rem=>.need (b≠0) (.int k (a.tmod b))
  |.and=>.ok (.int k (bitsI .and k a b))
  |.or=>.ok (.int k (bitsI .or k a b))
  |.xor=>.ok (.int k (bitsI .xor k a b))
  |.andNot=>.ok (.int k (bitsI .andNot k a b))
  |_=>.bad
def shiftInt (op:BinOp) (k:IntKind) (a b:Int):PR:=
  match op with
  |.shl=>.need (0≤b∧b.toNat≤k.bits∧inR k (a*2 ^ b.toNat)) (.int k (a*2 ^ b.toNat))
  |.shr=>.need (0≤b∧b.toNat≤k.bits) (.int k (a.fdiv (2 ^ b.toNat)))
  |_=>.bad
def eqCells:List V→List V→Option ((p:Prop)×Decidable p)
  |[.int k a],[.int k' b]=>if k=k' then some ⟨a=b,inferInstance⟩ else none
  |.int k a :: l,.int k' b :: m=>if k=k' then(match eqCells l m with
    |some ⟨p,d⟩=>some ⟨a=b∧p,@instDecidableAnd _ _ inferInstance d⟩
    |none=>none) else none
  |_,_=>none
def TK.isInt:TK→Bool
  |.int _=>true
  |_=>false
def intFieldsL (E:Env):Nat→List (Nat×Nat×TypeId)→Bool
  |_,[]=>true
  |n,(o,_,t) :: l=>Nat.beq n o && (E.ti t).known && (E.ti t).kind.isInt && intFieldsL E (n+1) l
def intFields (E:Env) (t:TypeId) (n:Nat):Bool:=
  match(E.ti t).known,(E.ti t).eq,(E.ti t).kind with
  |true,true,.struct fs=>intFieldsL E 0 fs && Nat.beq (len fs) n
  |_,_,_=>false
def kindsL (kinds:TypeId→Option (List IntKind)):Nat→List (Nat×Nat×TypeId)→Option (List IntKind)
  |_,[]=>some []
  |n,(o,_,t) :: l=>bif Nat.beq n o then(match kinds t with
    |some ks=>(match kindsL kinds (n+len ks) l with
      |some r=>some (app ks r)
      |none=>none)
    |none=>none) else none
def repK (ks:List IntKind):Nat→List IntKind
  |0=>[]
  |n+1=>app ks (repK ks n)
def kindsOf (E:Env):Nat→TypeId→Option (List IntKind)
  |0,_=>none
  |D+1,t=>match(E.ti t).known,(E.ti t).kind with
    |true,.int q=>some [q]
    |true,.struct fs=>bif (E.ti t).eq then(match kindsL (kindsOf E D) 0 fs with
      |some ks=>bif Nat.beq (len ks) (E.ti t).size then some ks else none
      |none=>none) else none
    |true,.array n e=>(match kindsOf E D e with
      |some ks=>bif (Nat.beq (len (repK ks n)) (E.ti t).size && Nat.beq (len ks) (E.ti e).size) then some (repK ks n) else none
      |none=>none)
    |_,_=>none
def binV (E:Env) (op:BinOp) (t:TypeId) (x y:V):PR:=
  match x,y with
  |.int k a,.int k' b=>(match op with
    |.shl=>shiftInt .shl k a b
    |.shr=>shiftInt .shr k a b
    |op=>if k=k' then binInt op k a b else .bad)
  |.agg l,.agg m=>match intFields E t (len l),op,eqCells l m with
    |true,.eql,some ⟨p,d⟩=>.ok (.prop p d)
    |true,.neq,some ⟨p,d⟩=>.ok (.prop (¬p) (@instDecidableNot _ d))
    |_,_,_=>.bad
  |x,y=>match(E.ti t).known,(E.ti t).kind with
   |true,.bool=>match op,x.asProp,y.asProp with
    |.eql,some ⟨p,d⟩,some ⟨q,e⟩=>.ok (.prop (p↔q) (@instDecidableIff _ _ d e))
    |.neq,some ⟨p,d⟩,some ⟨q,e⟩=>.ok (.prop (¬(p↔q)) (@instDecidableNot _ (@instDecidableIff _ _ d e)))
    |_,_,_=>.bad
   |_,_=>.bad
def pickV (c a b:V):PR:=
  match c with
  |.kb true=>match a with|.ite _ _=>.bad|a=>.ok a
  |.kb false=>match b with|.ite _ _=>.bad|b=>.ok b
  |.prop p d=>match a,b with
    |.ite q (.prop r dr),.kb false=>.need (p→q) (.prop (p∧r) (@instDecidableAnd _ _ d dr))
    |.ite q (.kb true),.kb false=>.need (p→q) (.prop p d)
    |.ite q (.kb false),.kb false=>.need (p→q) (.kb false)
    |.prop r dr,.kb false=>.ok (.prop (p∧r) (@instDecidableAnd _ _ d dr))
    |.kb true,.ite q (.prop r dr)=>.need (¬p→q) (.prop (p∨r) (@instDecidableOr _ _ d dr))
    |.kb true,.ite q (.kb false)=>.need (¬p→q) (.prop p d)
    |.kb true,.ite q (.kb true)=>.need (¬p→q) (.kb true)
    |.kb true,.prop r dr=>.ok (.prop (p∨r) (@instDecidableOr _ _ d dr))
    |_,_=>.bad
  |_=>.bad
def TI.agg (i:TI):Bool:=
  match i.kind with
  |.struct _=>true
  |.array _ _=>true
  |_=>false
def mkLoad (E:Env) (t:TypeId) (cs:List V):PR:=
  match(E.ti t).known,(E.ti t).agg with
  |true,true=>bif Nat.ble (E.ti t).size (len cs) then .ok (.agg (take (E.ti t).size cs)) else .bad
  |true,false=>match cs with
    |c :: _=>.ok c
    |[]=>.bad
  |_,_=>.bad
def loadV (E:Env) (H:List O) (t:TypeId):V→PR
  |.ptr id off=>match get .gone H id with
    |.cells _ vs=>mkLoad E t (drop off vs)
    |_=>.bad
  |.eptr id sz i off=>match get .gone H id with
    |.row _ sz' n f _=>match mkLoad E t (drop off (f i)),Nat.beq sz sz' with
      |.ok v,true=>.need (i<n) v
      |_,_=>.bad
    |.grid _ _ _ n m _ β hole _=>(match mkLoad E t [.gsl id i (m i) (β i)],Nat.beq sz 1 && Nat.beq off 0 with
      |.ok v,true=>.need (i<n∧hole=none) v
      |_,_=>.bad)
    |_=>.bad
  |.gptr id i j off sz e=>match get .gone H id with
    |.grid _ _ esz n m f β hole _=>match mkLoad E t (drop off (f i j)),Nat.beq sz esz with
      |.ok v,true=>.need (i<n∧hole=none∧e=β i∧j<m i) v
      |_,_=>.bad
    |_=>.bad
  |.iptr cs=>mkLoad E t cs
  |_=>.bad
def fieldOf (E:Env) (s:TypeId) (f:Nat):Option (Nat×Nat×TypeId):=
  match(E.ti s).kind with
  |.struct fs=>match get (0,0,0) fs f with
    |(_,0,_)=>none
    |(o,n+1,t)=>some (o,n+1,t)
  |_=>none
def fieldAddrV (E:Env) (s:TypeId) (f:Nat) (x:V):PR:=
  match(E.ti s).known,fieldOf E s f with
  |true,some (o,_,_)=>match x with
    |.ptr id off=>.ok (.ptr id (off+o))
    |.eptr id sz i off=>.ok (.eptr id sz i (off+o))
    |.iptr cs=>.ok (.iptr (drop o cs))
    |_=>.bad
  |_,_=>.bad
def fieldV (E:Env) (s:TypeId) (f:Nat) (x:V):PR:=
  match(E.ti s).known,fieldOf E s f,x with
  |true,some (o,n,t),.agg cs=>match(E.ti t).known,(E.ti t).agg with
    |true,true=>bif Nat.ble (o+n) (len cs) then .ok (.agg (take n (drop o cs))) else .bad
    |true,false=>match drop o cs with
      |c :: _=>.ok c
      |[]=>.bad
    |_,_=>.bad
  |_,_,_=>.bad
def a3a (E:Env) (t:TypeId):Option TypeId:=
  match(E.ti t).known,(E.ti t).kind with
  |true,.slice e=>match(E.ti e).known with
    |true=>some e
    |false=>none
  |_,_=>none
def arrOf (E:Env) (t:TypeId):Option (Nat×TypeId):=
  match(E.ti t).known,(E.ti t).kind with
  |true,.array n e=>match(E.ti e).known with
    |true=>some (n,e)
    |false=>none
  |_,_=>none
def indexAddrV (E:Env) (t:TypeId) (x i:V):PR:=
  match arrOf E t with
  |some (n,e)=>(match x,i with
    |.ptr id off,.int _ i=>.need (0≤i∧i<n) (.ptr id (off+i.toNat*(E.ti e).size))
    |.eptr id sz j off,.int _ i=>.need (0≤i∧i<n) (.eptr id sz j (off+i.toNat*(E.ti e).size))
    |.iptr cs,.int _ i=>.need (0≤i∧i<n) (.iptr (drop (i.toNat*(E.ti e).size) cs))
    |_,_=>.bad)
  |none=>
  match a3a E t with
  |some e=>match x,i with
    |.sl sz n f,.int _ i=>bif Nat.beq (E.ti e).size sz then .need (0≤i∧i<n) (.iptr (f i.toNat)) else .bad
    |.osl id n,.int _ i=>.need (0≤i∧i<n) (.eptr id (E.ti e).size i.toNat 0)
    |.win id sz off n,.int _ i=>bif Nat.beq (E.ti e).size sz then .need (0≤i∧i<n) (.eptr id sz (off+i.toNat) 0) else .bad
    |.gsl id i n eb,.int _ j=>.need (0≤j∧j<n) (.gptr id i j.toNat 0 (E.ti e).size eb)
    |_,_=>.bad
  |none=>.bad
def unV (op:UnOp) (x:V):PR:=
  match op,x with
  |.neg,.int k n=>.need (inR k (-n)) (.int k (-n))
  |.not,.prop p d=>.ok (.prop (¬p) (@instDecidableNot _ d))
  |.not,.kb true=>.ok (.kb false)
  |.not,.kb false=>.ok (.kb true)
  |_,_=>.bad
def lenV (E:Env) (t:TypeId) (x:V):PR:=
  match a3a E t,x with
  |some _,.sl _ n _=>.ok (.int .i64 n)
  |some _,.osl _ n=>.ok (.int .i64 n)
  |some _,.win _ _ _ n=>.ok (.int .i64 n)
  |some _,.x .emp=>.ok (.int .i64 0)
  |some _,.x (.awin _ _ _ n _)=>.ok (.int .i64 n)
  |some _,.gsl _ _ n _=>.ok (.int .i64 n)
  |_,_=>.bad
def V.one:V→Bool
  |.int ..|.prop ..|.kb ..|.ptr ..|.eptr ..|.iptr ..|.sl ..|.osl ..|.map ..|.fn ..|.sem ..|.imap ..|.yld ..|.win ..|.gsl ..|.gptr ..|.x ..=>true
  |.lit v=>v.oneCell'
  |_=>false
def V.isAgg:V→Bool
  |.agg _=>true
  |_=>false
def cells? : V→Option (List V)
  |.agg cs=>some (normL cs)
  |v=>bif v.one then some [normV v] else none
def allKnown (E:Env):List (Nat×Nat×TypeId)→Bool
  |[]=>true
  |(_,_,t) :: l=>(E.ti t).known && allKnown E l
def fillV (E:Env) (s:TypeId) (T:List V):List V→List (Nat×Operand)→Option (List V)
  |cs,[]=>some cs
  |cs,(i,x) :: l=>match fieldOf E s i,cells? (ev T x) with
    |some (o,n,_),some vs=>bif (Nat.beq (len vs) n && Nat.ble (o+n) (len cs)) then fillV E s T (splice cs o vs) l else none
    |_,_=>none
def fillA (sz:Nat) (T:List V):List V→List (Nat×Operand)→Option (List V)
  |cs,[]=>some cs
  |cs,(i,x) :: l=>match cells? (ev T x) with
    |some vs=>bif (Nat.beq (len vs) sz && Nat.ble (i*sz+sz) (len cs)) then fillA sz T (splice cs (i*sz) vs) l else none
    |none=>none
def builtinV (E:Env) (b:Builtin) (ts:List TypeId) (vs:List V):PR:=
  match b,ts,vs with
  |.len,[t],[x]=>lenV E t x
  |.max,_,[x,y]=>(match x,y with
    |.int k a,.int k' b=>if k=k' then .ok (.int k (max a b)) else .bad
    |_,_=>.bad)
  |.min,_,[x,y]=>(match x,y with
    |.int k a,.int k' b=>if k=k' then .ok (.int k (min a b)) else .bad
    |_,_=>.bad)
  |_,_,_=>.bad
/-! maps -/
def allInts:List IntKind→(List Int→Prop)→Prop
  |[],K=>K []
  |_ :: ks,K=>∀x:Int,allInts ks fun l=>K (x :: l)
def ksEq:List IntKind→List IntKind→Bool
  |[],[]=>true
  |a :: k,b :: l=>decide (a=b) && ksEq k l
  |_,_=>false
def bEq:Bool→Bool→Bool
  |true,true=>true
  |false,false=>true
  |_,_=>false
def a1u:List IntKind→List V→Option (List Int)
  |[],[]=>some []
  |q :: ks,.int q' n :: l=>bif decide (q=q') then(match a1u ks l with
    |some r=>some (n :: r)
    |none=>none) else none
  |_,_=>none
def keyV (ks:List IntKind) (ka:Bool) (v:V):Option (List Int):=
  match ka,v with
  |true,.agg cs=>a1u ks cs
  |false,v=>a1u ks [v]
  |_,_=>none
def keyCells:List IntKind→List Int→List V
  |q :: ks,n :: l=>.int q n :: keyCells ks l
  |_,_=>[]
def encKV (ks:List IntKind) (ka:Bool) (k:List Int):V:=
  bif ka then .agg (keyCells ks k) else get .any (keyCells ks k) 0
def encVV (va:Bool) (cs:List V):V:=
  bif va then .agg cs else get .any cs 0
def pickD (p:Prop):V→V→Option V
  |.int q a,.int q' b=>bif decide (q=q') then some (.int q (@ite _ p (Classical.propDecidable p) a b)) else none
  |.prop a _,.prop b _=>some (.prop (@ite _ p (Classical.propDecidable p) a b) (Classical.propDecidable _))
  |_,_=>none
def pickDL (p:Prop):List V→List V→Option (List V)
  |[],[]=>some []
  |a :: l,b :: m=>match pickD p a b,pickDL p l m with
    |some c,some r=>some (c :: r)
    |_,_=>none
  |_,_=>none
def mapOf (H:List O):V→Option (List IntKind×Bool×Bool×(List Int→Prop)×(List Int→List V)×Nat)
  |.map id=>match get .gone H id with
    |.map ks ka va dom val n _=>some (ks,ka,va,dom,val,n)
    |_=>none
  |.imap ks ka va dom val n=>some (ks,ka,va,dom,val,n)
  |_=>none
def mapT (E:Env) (t:TypeId):Option (List IntKind×Bool×Bool×TypeId):=
  match(E.ti t).known,(E.ti t).kind with
  |true,.map kt et=>match kindsOf E 8 kt,(E.ti et).known with
    |some ks,true=>some (ks,(E.ti kt).agg,(E.ti et).agg,et)
    |_,_=>none
  |_,_=>none
def lookupV (E:Env) (H:List O) (t:TypeId) (m x:V) (c:Bool):PR:=
  match mapT E t,mapOf H m with
  |some (ks,ka,va,et),some (ks',ka',va',dom,val,_)=>
    match(E.ti et).zero,keyV ks ka x,ksEq ks ks' && bEq ka ka' && bEq va va' with
    |some z,some k,true=>match pickDL (dom k) (val k) z with
      |some cs=>match c with
        |true=>.ok (.tup [encVV va cs,.prop (dom k) (Classical.propDecidable _)])
        |false=>.ok (encVV va cs)
      |none=>.bad
    |_,_,_=>.bad
  |_,_=>.bad
def a1l (dom:List Int→Prop) (k:List Int) (k':List Int):Prop:=k'=k∨dom k'
def nPut (dom:List Int→Prop) (n:Nat) (k:List Int):Nat:=@ite _ (dom k) (Classical.propDecidable _) n (n+1)
def domDel (dom:List Int→Prop) (k:List Int) (k':List Int):Prop:=dom k'∧k'≠k
def nDel (dom:List Int→Prop) (n:Nat) (k:List Int):Nat:=@ite _ (dom k) (Classical.propDecidable _) (n-1) n
def mrgL (p:Prop) (a b:List V):List V:=match pickDL p a b with
  |some c=>c
  |none=>@ite _ p (Classical.propDecidable _) a b
def valPut (val:List Int→List V) (k:List Int) (z:List V) (k':List Int):List V:=mrgL (k'=k) z (val k')
def mrg1 (p:Prop) (a b:V):V:=match pickD p a b with
  |some c=>c
  |none=>@ite _ p (Classical.propDecidable _) a b
def a2d (p:Prop):List V→Nat→List V→List V
  |l,_,[]=>l
  |l,i,x :: xs=>a2d p (set l i (mrg1 p x (get .any l i))) (i+1) xs
def entryV (H:List O):V→PR
  |.ptr id 0=>match get .gone H id with
    |.iter mid g _ done=>match get .gone H mid,done with
      |.map ks ka va dom val _ g',k :: _=>.need (g=g'∧dom k∧k.length=ks.length) (.tup [encKV ks ka k,encVV va (val k)])
      |_,_=>.bad
    |_=>.bad
  |_=>.bad
def nilOf (H:List O):V→Option PR
  |.osl id n=>match get .gone H id with
    |.row _ _ n' _ true=>some (.need (n=n') (.prop (n=0) inferInstance))
    |.row _ _ n' _ false=>some (.need (n=n') (.kb false))
    |_=>none
  |.lit (.slice none _ _)=>some (.ok (.kb true))
  |.lit (.slice (some _) _ _)=>some (.ok (.kb false))
  |.sl _ n _=>some (.need (0<n) (.kb false))
  |.x (.awin _ _ _ _ _)=>some (.ok (.kb false))
  |_=>none
def isNil:V→Bool
  |.lit (.slice none 0 0)=>true
  |_=>false
def PR.neg:PR→PR
  |.ok v=>unV .not v
  |.need c v=>match unV .not v with
    |.ok v=>.need c v
    |_=>.bad
  |.bad=>.bad
def binA (E:Env) (op:BinOp) (t:TypeId) (x y:V):PR:=
  match(E.ti t).known,(E.ti t).eq,(E.ti t).kind,x,y with
  |true,true,.array _ _,.agg l,.agg m=>match kindsOf E 8 t with
    |some ks=>match a1u ks l,a1u ks m,op,eqCells l m with
      |some _,some _,.eql,some ⟨p,d⟩=>.ok (.prop p d)
      |some _,some _,.neq,some ⟨p,d⟩=>.ok (.prop (¬p) (@instDecidableNot _ d))
      |_,_,_,_=>.bad
    |none=>.bad
  |_,_,_,_,_=>.bad
def PR.orElse':PR→PR→PR
  |.bad,r=>r
  |r,_=>r
def binW (E:Env) (op:BinOp) (x y:V):PR:=
  bif Nat.beq (get {} E 0).size 1 then(match op,x,y with
    |.add,.int k a,.int k' b=>if k=k' then .ok (.int k (k.wrap (a+b))) else .bad
    |_,_,_=>.bad) else .bad
def binH (E:Env) (H:List O) (op:BinOp) (t:TypeId) (x y:V):PR:=
  match isNil y,a3a E t with
  |true,some _=>match op,nilOf H x with
    |.eql,some r=>r
    |.neq,some r=>r.neg
    |_,_=>.bad
  |_,_=>(binW E op x y).orElse' ((binA E op t x y).orElse' (binV E op t x y))
def lenM (E:Env) (H:List O) (t:TypeId) (x:V):PR:=
  match mapT E t,mapOf H x with
  |some _,some (_,_,_,_,_,n)=>.ok (.int .i64 n)
  |_,_=>.bad
def boundV (T:List V) (d:Int):Option Operand→Option Int
  |none=>some d
  |some x=>match ev T x with
    |.int _ i=>some i
    |_=>none
def sliceV (E:Env) (H:List O) (t:TypeId) (x:V) (lo:Option Int) (hi:Int→Option Int):PR:=
  match a3a E t,lo with
  |some e,some l=>match x with
    |.osl id n=>(match get .gone H id,hi n with
      |.row _ sz n' _ _,some h=>bif Nat.beq (E.ti e).size sz then .need (n=n'∧0≤l∧l≤h∧h≤n) (.win id (E.ti e).size l.toNat (h-l).toNat) else .bad
      |_,_=>.bad)
    |.win id sz off n=>(match hi n with
      |some h=>bif Nat.beq (E.ti e).size sz then .need (0≤l∧l≤h∧h≤n) (.win id sz (off+l.toNat) (h-l).toNat) else .bad
      |none=>.bad)
    |.sl sz n f=>(match hi n with
      |some h=>bif Nat.beq (E.ti e).size sz then .need (0≤l∧l≤h∧h≤n) (.sl sz (h-l).toNat (fun i=>f (l.toNat+i))) else .bad
      |none=>.bad)
    |.lit (.slice none 0 0)=>(match hi 0 with
      |some h=>.need (l=0∧h=0) (.lit (.slice none 0 0))
      |none=>.bad)
    |_=>.bad
  |_,_=>.bad
def sliceA (E:Env) (n:Nat) (e:TypeId) (x:V) (lo hi:Option Int):PR:=
  match x,lo,hi with
  |.ptr id off,some l,some h=>.need (l=0∧0≤h∧h≤n∧0<n) (.x (.awin id off (E.ti e).size h.toNat n))
  |_,_,_=>.bad
def V.isSl:V→Bool
  |.osl _ _=>true
  |.win _ _ _ _=>true
  |.sl _ _ _=>true
  |.x .emp=>true
  |.x (.awin _ _ _ _ _)=>true
  |.gsl _ _ _ _=>true
  |.lit (.slice none 0 0)=>true
  |_=>false
def slice3 (E:Env) (t:TypeId) (x:V) (lo:Option Int) (hi mx:V):PR:=
  match a3a E t,lo,hi,mx with
  |some _,some l,.int _ h,.int _ m=>bif x.isSl then .need (l=0∧h=0∧m=0) (.x .emp) else .bad
  |_,_,_,_=>.bad
def isTmp:Operand→Bool
  |.tmp _=>true
  |_=>false
def slice3W (E:Env) (H:List O) (t:TypeId) (id n:Nat) (lo:Option Int) (hi mx:V):PR:=
  match a3a E t,get .gone H id,lo,hi,mx with
  |some e,.row _ sz n' _ _,some l,.int _ h,.int _ m=>bif Nat.beq (E.ti e).size sz then .need (n=n'∧l=0∧h=n∧m=n) (.x (.twin id n)) else .bad
  |_,_,_,_,_=>.bad
def convertV (E:Env) (s d:TypeId) (x:V):PR:=
  match(E.ti s).known,(E.ti d).known,(E.ti d).kind,x with
  |true,true,.int k,.int _ n=>.need (inR k n) (.int k n)
  |_,_,_,_=>.bad
def nilCheckV:V→PR
  |.ptr id off=>.ok (.ptr id off)
  |.eptr id sz i off=>.ok (.eptr id sz i off)
  |.iptr cs=>.ok (.iptr cs)
  |_=>.bad
def byteAt (s:ByteArray) (i:Nat):Int:=((s[i]?).map (fun b=>(b.toNat:Int))).getD 0
def indexV (E:Env) (t:TypeId) (x i:V):PR:=
  match(E.ti t).known,(E.ti t).kind,x,i with
  |true,.str,.lit (.string s),.int _ i=>.need (0≤i∧i<s.size) (.int .u8 (byteAt s i.toNat))
  |true,.array n e,.agg cs,.int _ i=>(match(E.ti e).known,(E.ti e).agg with
    |true,true=>.need (0≤i∧i<n) (.agg (take (E.ti e).size (drop (i.toNat*(E.ti e).size) cs)))
    |true,false=>(match Nat.beq (E.ti e).size 1,drop i.toNat cs with
      |true,c :: _=>.need (0≤i∧i<n) c
      |_,_=>.bad)
    |_,_=>.bad)
  |_,_,_,_=>.bad
def a1f (E:Env) (T:List V) (H:List O) (o:Op):PR:=
  match o with
  |.move x=>.ok (ev0 T x)
  |.assign x=>.ok (ev0 T x)
  |.pick c a b=>pickV (ev T c) (ev0 T a) (ev0 T b)
  |.load t a=>loadV E H t (ev T a)
  |.fieldAddr s x f=>fieldAddrV E s f (ev T x)
  |.field s x f=>fieldV E s f (ev T x)
  |.indexAddr t x i=>indexAddrV E t (ev T x) (ev T i)
  |.binOp op t x y _=>binH E H op t (ev T x) (ev T y)
  |.unOp op _ x=>unV op (ev T x)
  |.extract x i=>match ev T x with
    |.tup vs=>bif Nat.ble (i+1) (len vs) then .ok (get .any vs i) else .bad
    |_=>.bad
  |.makeFunc fn first cap=>.ok (.fn fn (evs T first.toList) (evs T cap.toList))
  |.nilCheck x=>nilCheckV (ev T x)
  |.convert s d x=>convertV E s d (ev T x)
  |.index t x i=>indexV E t (ev T x) (ev T i)
  |.slice t x lo hi none=>(match arrOf E t with
    |some (n,e)=>sliceA E n e (ev T x) (boundV T 0 lo) (boundV T n hi)
    |none=>sliceV E H t (ev T x) (boundV T 0 lo) (fun n=>boundV T n hi))
  |.slice t x lo (some h) (some m)=>(match isTmp h,ev T x with
    |true,.osl id n=>slice3W E H t id n (boundV T 0 lo) (ev T h) (ev T m)
    |_,_=>slice3 E t (ev T x) (boundV T 0 lo) (ev T h) (ev T m))
  |.build t parts=>match(E.ti t).known,(E.ti t).kind,(E.ti t).zero with
    |true,.array _ e,some z=>bif (E.ti e).known then(match fillA (E.ti e).size T z parts.toList with
      |some cs=>.ok (.agg cs)
      |none=>.bad) else .bad
    |true,.struct fs,some z=>bif allKnown E fs then(match fillV E t T z parts.toList with
      |some cs=>.ok (.agg cs)
      |none=>.bad) else .bad
    |_,_,_=>.bad
  |.call {callee:=.builtin .len,args:=⟨[x]⟩,argTypes:=⟨[t]⟩}=>(lenM E H t (ev T x)).orElse' (lenV E t (ev T x))
  |.call {callee:=.builtin b,args,argTypes}=>builtinV E b argTypes.toList (evs T args.toList)
  |.lookup t x i c=>lookupV E H t (ev T x) (ev T i) c
  |.entry x=>entryV H (ev T x)
  |_=>.bad
mutual
def V.fo:V→Bool
  |.int _ _=>true
  |.prop _ _=>true
  |.kb _=>true
  |.ptr _ _=>false
  |.eptr _ _ _ _=>false
  |.iptr _=>true
  |.sl _ _ _=>true
  |.osl _ _=>false
  |.map _=>false
  |.fn _ a b=>foL a && foL b
  |.agg cs=>foL cs
  |.tup cs=>foL cs
  |.lit _=>true
  |.ite _ v=>v.fo
  |.sem _=>true
  |.imap _ _ _ _ _ _=>true
  |.yld _=>false
  |.win _ _ _ _=>false
  |.gsl _ _ _ _=>false
  |.gptr _ _ _ _ _ _=>false
  |.x e=>e.fo
  |.any=>true
def foL:List V→Bool
  |[]=>true
  |v :: l=>v.fo && foL l
end
mutual
def V.scal:V→Bool
  |.int _ _=>true
  |.prop _ _=>true
  |.kb _=>true
  |.agg cs=>scalL cs
  |.tup cs=>scalL cs
  |.lit _=>true
  |_=>false
def scalL:List V→Bool
  |[]=>true
  |v :: l=>v.scal && scalL l
end
def heapOp (E:Env) (T:List V) (H:List O) (o:Oper) (K:KT):Prop:=
  match o.op with
  |.alloc t=>match(E.ti t).known,(E.ti t).zero with
    |true,some z=>lenK H fun n=>forceL z fun z=>pushK H (.cells t z) fun H'=>putK T o.dst (.ptr n 0) fun T'=>K T' H'
    |_,_=>False
  |.box t x=>match cells? (ev T x) with
    |some z=>lenK H fun n=>forceL z fun z=>pushK H (.cells t z) fun H'=>putK T o.dst (.ptr n 0) fun T'=>K T' H'
    |none=>False
  |.store t a x=>match(E.ti t).known,ev T a,cells? (ev T x) with
    |true,.ptr id off,some z=>match get .gone H id with
      |.cells ty vs=>bif (Nat.beq (len z) (E.ti t).size && Nat.ble (off+len z) (len vs)) then
          (forceL (spliceQ vs off z) fun z=>setK H id (.cells ty z) fun H'=>putK T o.dst .any fun T'=>K T' H') else False
      |_=>False
    |true,.eptr id sz i off,some z=>match get .gone H id with
      |.row ty sz' n f nz=>bif (Nat.beq (len z) (E.ti t).size && Nat.ble (off+len z) sz && Nat.beq sz sz' && foL z) then
          i<n∧(forceL z fun z=>setK H id (.row ty sz n (fun j=>a2d (j=i) (f j) off z) nz) fun H'=>putK T o.dst .any fun T'=>K T' H') else False
      |_=>False
    |_,_,_=>False
  |_=>False
def natK:Nat→(Nat→Prop)→Prop
  |0,K=>K 0
  |1,K=>K 1
  |2,K=>K 2
  |3,K=>K 3
  |4,K=>K 4
  |5,K=>K 5
  |6,K=>K 6
  |7,K=>K 7
  |8,K=>K 8
  |9,K=>K 9
  |10,K=>K 10
  |11,K=>K 11
  |12,K=>K 12
  |13,K=>K 13
  |14,K=>K 14
  |15,K=>K 15
  |16,K=>K 16
  |17,K=>K 17
  |18,K=>K 18
  |19,K=>K 19
  |20,K=>K 20
  |21,K=>K 21
  |22,K=>K 22
  |23,K=>K 23
  |24,K=>K 24
  |25,K=>K 25
  |26,K=>K 26
  |27,K=>K 27
  |28,K=>K 28
  |29,K=>K 29
  |30,K=>K 30
  |31,K=>K 31
  |32,K=>K 32
  |33,K=>K 33
  |34,K=>K 34
  |35,K=>K 35
  |36,K=>K 36
  |37,K=>K 37
  |38,K=>K 38
  |39,K=>K 39
  |40,K=>K 40
  |n,K=>K n
def rowsOf (sz:Nat) (T:List V):Nat→List (Nat×Operand)→Option (List (List V))
  |_,[]=>some []
  |k,(i,x) :: l=>match cells? (ev T x),rowsOf sz T (k+1) l with
    |some z,some r=>bif (Nat.beq i k && Nat.beq (len z) sz && foL z) then some (z :: r) else none
    |_,_=>none
def forceLL:List (List V)→(List (List V)→Prop)→Prop
  |[],K=>K []
  |z :: l,K=>forceL z fun z=>forceLL l fun l=>K (z :: l)
def srcOf (H:List O) (sz:Nat):V→Option (Nat×(Nat→List V)×Option Prop)
  |.sl sz' m g=>bif Nat.beq sz sz' then some (m,g,none) else none
  |.osl id m=>match get .gone H id with
    |.row _ sz' m' g _=>bif Nat.beq sz sz' then some (m,g,some (m=m')) else none
    |_=>none
  |.win id sz' off m=>match get .gone H id with
    |.row _ sz'' m' g _=>bif (Nat.beq sz sz' && Nat.beq sz sz'') then some (m,fun i=>g (off+i),some (off+m≤m')) else none
    |_=>none
  |.x .emp=>some (0,fun _=>[],none)
  |.lit (.slice _ 0 _)=>some (0,fun _=>[],none)
  |.x (.awin id off sz' m c)=>match get .gone H id with
    |.cells _ vs=>bif (Nat.beq sz sz' && Nat.ble (off+c*sz) (len vs) && foL (take (c*sz) (drop off vs))) then some (m,fun i=>take sz (drop (off+i*sz) vs),none) else none
    |_=>none
  |_=>none
def srcC:Option Prop→Prop→Prop
  |none,K=>K
  |some p,K=>p∧K
def appF (n:Nat) (f g:Nat→List V) (i:Nat):List V:=if i<n then f i else g (i-n)
def sliceOp (E:Env) (T:List V) (H:List O) (o:Oper) (K:KT):Prop:=
  match o.op with
  |.buildSlice t n parts=>match a3a E t with
    |some e=>match(E.ti e).zero,rowsOf (E.ti e).size T 0 parts.toList with
      |some _,some rows=>bif (Nat.beq (len rows) n && Nat.ble 1 (E.ti e).size && Nat.ble (n*(E.ti e).size) 16777216) then
          (natK (E.ti e).size fun sz=>lenK H fun id=>forceLL rows fun rows=>match rows with
            |[c]=>pushK H (.row e sz n (fun _=>c) false) fun H'=>putK T o.dst (.osl id n) fun T'=>K T' H'
            |rows=>pushK H (.row e sz n (fun i=>get [] rows i) false) fun H'=>putK T o.dst (.osl id n) fun T'=>K T' H')
          else False
      |_,_=>False
    |none=>False
  |.makeSlice t l c=>match a3a E t,ev T l,ev T c with
    |some e,.int _ l,.int _ c=>match(E.ti e).zero with
      |some z=>bif (foL z && Nat.ble (E.ti e).bytes 1024) then 0≤l∧l≤c∧c≤137438953472∧
          (natK (E.ti e).size fun sz=>lenK H fun id=>forceL z fun z=>pushK H (.row e sz l.toNat (fun _=>z) false) fun H'=>putK T o.dst (.osl id l.toNat) fun T'=>K T' H') else False
      |none=>False
    |_,_,_=>False
  |.call {callee:=.builtin .append,args:=⟨[s,x]⟩,argTypes:=⟨[t,t']⟩}=>match a3a E t,Nat.beq t t' with
    |some e,true=>match(E.ti e).zero,srcOf H (E.ti e).size (ev T x),Nat.ble 1 (E.ti e).size && Nat.ble (E.ti e).bytes 1024 with
      |some _,some (m,g,c),true=>match ev T s with
        |.osl id n=>match get .gone H id with
          |.row ty sz n' f nz=>bif (Nat.beq ty e && Nat.beq sz (E.ti e).size) then srcC c (n=n'∧n+m≤137438953472∧
              (lenK H fun id'=>setK H id .gone fun H'=>pushK H' (.row ty sz (n+m) (appF n f g) nz) fun H'=>putK T o.dst (.osl id' (n+m)) fun T'=>K T' H')) else False
          |_=>False
        |.lit (.slice none 0 0)=>srcC c (m≤137438953472∧
              (natK (E.ti e).size fun sz=>lenK H fun id'=>pushK H (.row e sz m g true) fun H'=>putK T o.dst (.osl id' m) fun T'=>K T' H'))
        |_=>False
      |_,_,_=>False
    |_,_=>False
  |.call {callee:=.builtin .clear,args:=⟨[x]⟩,argTypes:=⟨[t]⟩}=>match a3a E t,ev T x with
    |some e,.win id sz off n=>match(E.ti e).zero,get .gone H id with
      |some z,.row ty sz' n' f nz=>bif (Nat.beq sz (E.ti e).size && Nat.beq sz' (E.ti e).size && foL z) then off+n≤n'∧
          (forceL z fun z=>setK H id (.row ty sz' n' (fun j=>if off≤j∧j<off+n then z else f j) nz) fun H'=>putK T o.dst .any fun T'=>K T' H') else False
      |_,_=>False
    |_,_=>False
  |_=>False
def hasGrid (ty:TypeId):List O→Bool
  |[]=>false
  |.grid _ ety _ _ _ _ _ _ _ :: l=>Nat.beq ety ty || hasGrid ty l
  |_ :: l=>hasGrid ty l
def isGrid (T:List V) (H:List O) (o:Oper):Bool:=
  match o.op with
  |.store _ a _=>(match ev T a with
    |.gptr _ _ _ _ _ _=>true
    |.eptr id _ _ _=>(match get .gone H id with|.grid _ _ _ _ _ _ _ _ _=>true|_=>false)
    |_=>false)
  |.call {callee:=.builtin .append,args:=⟨[s,_]⟩,argTypes:=⟨[_,_]⟩}=>(match ev T s with
    |.gsl _ _ _ _=>true
    |.osl id _=>(match get .gone H id with|.grid _ _ _ _ _ _ _ _ _=>true|_=>false)
    |_=>false)
  |.buildSlice _ _ ⟨[(0,.tmp t)]⟩=>(match get .any T t with
    |.osl id _=>(match get .gone H id with|.row ty _ _ _ _=>hasGrid ty H|_=>false)
    |_=>false)
  |_=>false
def gridApp (E:Env) (T:List V) (H:List O) (o:Oper) (K:KT) (e:TypeId) (x:V) (g1 n:Nat):Prop:=
  match x with
  |.osl g2 m=>(match get .gone H g1,get .gone H g2 with
    |.grid ty ety esz n' m1 f1 _ hole1 nz1,.grid ty2 ety2 esz2 m' m2 f2 _ hole2 _=>
      bif (Nat.beq ty e && Nat.beq ty2 e && Nat.beq ety ety2 && Nat.beq esz esz2 && Nat.beq (E.ti e).size 1 && Nat.ble (E.ti e).bytes 1024 && !Nat.beq g1 g2 && (E.ti e).zero.isSome) then
        (n=n'∧m=m'∧hole1=none∧hole2=none∧1≤m∧n+m≤137438953472)∧∀β':Nat→Option Nat×Nat,lenK H fun id=>setK H g1 .gone fun H'=>setK H' g2 .gone fun H'=>pushK H' (.grid ty ety esz (n+m) (fun i=>if i<n then m1 i else m2 (i-n)) (fun i j=>if i<n then f1 i j else f2 (i-n) j) β' none nz1) fun H'=>putK T o.dst (.osl id (n+m)) fun T'=>K T' H'
      else False
    |_,_=>False)
  |_=>False
def gridOp (E:Env) (T:List V) (H:List O) (o:Oper) (K:KT):Prop:=
  match o.op with
  |.store t a x=>(match(E.ti t).known,ev T a,cells? (ev T x) with
    |true,.gptr id i j off sz e,some z=>(match get .gone H id with
      |.grid ty ety esz n m f β hole nz=>bif (Nat.beq (len z) (E.ti t).size && Nat.ble (off+len z) sz && Nat.beq sz esz && foL z) then
          (i<n∧hole=none∧e=β i∧j<m i)∧(forceL z fun z=>setK H id (.grid ty ety esz n m (fun i' j'=>a2d (i'=i∧j'=j) (f i' j') off z) β none nz) fun H'=>putK T o.dst .any fun T'=>K T' H') else False
      |_=>False)
    |true,.eptr id sz i 0,some [.osl id2 k]=>(match get .gone H id,get .gone H id2 with
      |.grid ty ety esz n m f _ hole nz,.row ety2 sz2 k2 f2 _=>bif (Nat.beq (E.ti t).size 1 && Nat.beq sz 1 && Nat.beq ety ety2 && Nat.beq esz sz2) then
          (i<n∧k=k2∧(hole=none∨hole=some i))∧∀β':Nat→Option Nat×Nat,setK H id2 .gone fun H'=>setK H' id (.grid ty ety esz n (fun i'=>if i'=i then k2 else m i') (fun i' j'=>if i'=i then f2 j' else f i' j') β' none nz) fun H'=>putK T o.dst .any fun T'=>K T' H'
          else False
      |_,_=>False)
    |_,_,_=>False)
  |.call {callee:=.builtin .append,args:=⟨[s,x]⟩,argTypes:=⟨[t,t']⟩}=>(match a3a E t,Nat.beq t t' with
    |some e,true=>(match(E.ti e).zero,srcOf H (E.ti e).size (ev T x),Nat.ble 1 (E.ti e).size && Nat.ble (E.ti e).bytes 1024 with
      |some _,some (ms,g,c),true=>(match ev T s with
        |.gsl id i n eb=>(match get .gone H id with
          |.grid ty ety esz N m f β hole nz=>bif (Nat.beq ety e && Nat.beq esz (E.ti e).size) then srcC c ((i<N∧hole=none∧eb=β i∧n=m i∧1≤ms∧n+ms≤137438953472)∧(lenK H fun id'=>setK H id (.grid ty ety esz N m f β (some i) nz) fun H'=>pushK H' (.row ety esz (n+ms) (appF n (f i) g) true) fun H'=>putK T o.dst (.osl id' (n+ms)) fun T'=>K T' H')) else False
          |_=>False)
        |_=>False)
      |_,_,_=>(match ev T s with
        |.osl g1 n=>gridApp E T H o K e (ev T x) g1 n
        |_=>False))
    |_,_=>False)
  |.buildSlice t 1 ⟨[(0,.tmp u)]⟩=>(match a3a E t,get .any T u with
    |some e,.osl id k=>(match(E.ti e).zero,get .gone H id with
      |some _,.row ety esz k2 f2 _=>bif Nat.beq (E.ti e).size 1 then k=k2∧∀β':Nat→Option Nat×Nat,lenK H fun gid=>setK H id .gone fun H'=>pushK H' (.grid e ety esz 1 (fun _=>k2) (fun _=>f2) β' none false) fun H'=>putK T o.dst (.osl gid 1) fun T'=>K T' H' else False
      |_,_=>False)
    |_,_=>False)
  |_=>False
def mrgZ (p:Prop):List V→List V→List V
  |a :: l,b :: m=>mrg1 p a b :: mrgZ p l m
  |_,m=>m
def copyC (sz k:Nat) (g:Nat→List V):Nat→Nat→List V→List V
  |0,_,l=>l
  |r+1,i,l=>app (mrgZ (i<k) (g i) (take sz l)) (copyC sz k g r (i+1) (drop sz l))
def rowCopy (T:List V) (H:List O) (o:Oper) (K:KT) (size m:Nat) (g:Nat→List V) (c:Option Prop) (id off n:Nat):Prop:=
  match get .gone H id with
  |.row ty sz' n' f nz=>bif Nat.beq sz' size then srcC c (off+n≤n'∧(setK H id (.row ty sz' n' (fun j=>if off≤j∧j<off+min m n then g (j-off) else f j) nz) fun H'=>putK T o.dst (.int .i64 (min m n:Nat)) fun T'=>K T' H')) else False
  |_=>False
def isExt (T:List V) (o:Oper):Bool:=
  match o.op with
  |.call {callee:=.builtin .append,args:=⟨[s,_]⟩,argTypes:=⟨[_,_]⟩}=>(match ev T s with
    |.x .emp=>true
    |.x (.twin _ _)=>true
    |.win _ _ _ _=>true
    |_=>false)
  |.call {callee:=.builtin .copy,args:=⟨[_,_]⟩,argTypes:=⟨[_,_]⟩}=>true
  |.mapEntry _ _ _=>true
  |.entryStore _ _ _ _=>true
  |_=>false
def valEnt (dom:List Int→Prop) (val:List Int→List V) (z:List V) (k:List Int):List V:=mrgL (dom k) (val k) z
def extOp (E:Env) (T:List V) (H:List O) (o:Oper) (K:KT):Prop:=
  match o.op with
  |.call {callee:=.builtin .append,args:=⟨[s,x]⟩,argTypes:=⟨[t,t']⟩}=>(match a3a E t,Nat.beq t t' with
    |some e,true=>(match(E.ti e).zero,srcOf H (E.ti e).size (ev T x),Nat.ble 1 (E.ti e).size && Nat.ble (E.ti e).bytes 1024 with
      |some _,some (m,g,c),true=>(match ev T s with
        |.x .emp=>srcC c ((m=0→putK T o.dst (.x .emp) fun T'=>K T' H)∧(¬m=0→m≤137438953472∧
            (natK (E.ti e).size fun sz=>lenK H fun id'=>pushK H (.row e sz m g false) fun H'=>putK T o.dst (.osl id' m) fun T'=>K T' H')))
        |.x (.twin id n)=>(match get .gone H id with
          |.row ty sz' n' f _=>bif (Nat.beq ty e && Nat.beq sz' (E.ti e).size) then srcC c ((n=n'∧1≤m∧n+m≤137438953472)∧(lenK H fun id'=>pushK H (.row ty sz' (n+m) (appF n f g) false) fun H'=>putK T o.dst (.osl id' (n+m)) fun T'=>K T' H')) else False
          |_=>False)
        |.win id _ 0 n=>(match get .gone H id with
          |.row ty sz' n' f _=>bif (Nat.beq ty e && Nat.beq sz' (E.ti e).size) then srcC c ((n≤n'∧0<n'∧1≤m∧n+m≤137438953472)∧(lenK H fun id'=>setK H id .gone fun H'=>pushK H' (.row ty sz' (n+m) (appF n f g) false) fun H'=>putK T o.dst (.osl id' (n+m)) fun T'=>K T' H')) else False
          |_=>False)
        |_=>False)
      |_,_,_=>False)
    |_,_=>False)
  |.call {callee:=.builtin .copy,args:=⟨[d,x]⟩,argTypes:=⟨[t,_]⟩}=>(match a3a E t with
    |some e=>(match srcOf H (E.ti e).size (ev T x) with
      |some (m,g,c)=>(match ev T d with
        |.osl id n=>rowCopy T H o K (E.ti e).size m g c id 0 n
        |.win id sz off n=>bif Nat.beq sz (E.ti e).size then rowCopy T H o K (E.ti e).size m g c id off n else False
        |.x (.awin id off sz n cp)=>(match get .gone H id with
          |.cells ty vs=>bif (Nat.beq sz (E.ti e).size && Nat.ble (off+cp*sz) (len vs)) then srcC c
              (forceL (app (take off vs) (copyC sz (min m n) g cp 0 (drop off vs))) fun z=>setK H id (.cells ty z) fun H'=>putK T o.dst (.int .i64 (min m n:Nat)) fun T'=>K T' H') else False
          |_=>False)
        |_=>False)
      |none=>False)
    |none=>False)
  |.mapEntry t m x=>(match mapT E t,ev T m with
    |some (ks,ka,va,et),.map id=>(match get .gone H id,keyV ks ka (ev T x),(E.ti et).zero with
      |.map ks' ka' va' dom val n _,some k,some z=>bif (ksEq ks ks' && bEq ka ka' && bEq va va') then
          ∀g:MG,forceL z fun z=>setK H id (.map ks' ka' va' (a1l dom k) (valEnt dom val z) (nPut dom n k) g) fun H'=>putK T o.dst (.tup [.any,.x (.stamp g k)]) fun T'=>K T' H' else False
      |_,_,_=>False)
    |_,_=>False)
  |.entryStore t m s v=>(match mapT E t,ev T m,ev T s,cells? (ev T v) with
    |some (ks,ka,va,_),.map id,.x (.stamp g k),some z=>(match get .gone H id with
      |.map ks' ka' va' dom val n g'=>bif (ksEq ks ks' && bEq ka ka' && bEq va va' && foL z && (va || Nat.beq (len z) 1) && bEq va (ev T v).isAgg) then
          (g=g'∧dom k∧k.length=ks'.length)∧(forceL z fun z=>setK H id (.map ks' ka' va' dom (valPut val k z) n g') fun H'=>putK T o.dst .any fun T'=>K T' H') else False
      |_=>False)
    |_,_,_,_=>False)
  |_=>False
def frzL (F:V→Option (List Prop×List Nat×V)):List V→Option (List Prop×List Nat×List V)
  |[]=>some ([],[],[])
  |v :: l=>match F v,frzL F l with
    |some (p,i,v'),some (q,j,l')=>some (app p q,app i j,v' :: l')
    |_,_=>none
def frzV:Nat→List O→V→Option (List Prop×List Nat×V)
  |0,_,_=>none
  |D+1,H,v=>match v with
    |.osl id n=>(match get .gone H id with
      |.row _ sz m f _=>some ([n=m],[id],.sl sz n f)
      |.grid _ _ esz m k f _ hole _=>some ([n=m,hole=none],[id],.sl 1 n (fun i=>[.sl esz (k i) (f i)]))
      |_=>none)
    |.win id sz off n=>(match get .gone H id with
      |.row _ sz' m f _=>bif Nat.beq sz sz' then some ([off+n≤m],[id],.sl sz n (fun i=>f (off+i))) else none
      |_=>none)
    |.ptr id off=>(match get .gone H id with
      |.cells _ vs=>(match frzL (frzV D H) (drop off vs) with
        |some (p,i,cs)=>some (p,id :: i,.iptr cs)
        |none=>none)
      |_=>none)
    |.agg cs=>(match frzL (frzV D H) cs with
      |some (p,i,cs)=>some (p,i,.agg cs)
      |none=>none)
    |v=>bif v.fo then some ([],[],v) else none
def propsK:List Prop→Prop→Prop
  |[],K=>K
  |p :: l,K=>p∧propsK l K
def goneK:List Nat→List O→(List O→Prop)→Prop
  |[],H,K=>K H
  |i :: l,H,K=>setK H i .gone fun H=>goneK l H K
def frzK:List (Nat×Operand)→List V→List O→(List V→List O→Prop)→Prop
  |[],T,H,K=>K T H
  |(_,.tmp t) :: l,T,H,K=>bif (get .any T t).fo then frzK l T H K else(match frzV 8 H (get .any T t) with
    |some (ps,ids,v)=>propsK ps (force v fun v=>setK T t v fun T=>goneK ids H fun H=>frzK l T H K)
    |none=>False)
  |_ :: l,T,H,K=>frzK l T H K
def anyOwn (T:List V):List (Nat×Operand)→Bool
  |[]=>false
  |(_,.tmp t) :: l=>!(get .any T t).fo || anyOwn T l
  |_ :: l=>anyOwn T l
def isFrz (T:List V) (o:Oper):Bool:=
  match o.op with
  |.buildSlice _ _ parts=>anyOwn T parts.toList
  |_=>false
def frzOp (E:Env) (T:List V) (H:List O) (o:Oper) (K:KT):Prop:=
  match o.op with
  |.buildSlice _ _ parts=>frzK parts.toList T H fun T H=>sliceOp E T H o K
  |_=>False
def ksK:List IntKind→(List IntKind→Prop)→Prop
  |[],K=>K []
  |k :: l,K=>ksK l fun l=>K (k :: l)
def bK:Bool→(Bool→Prop)→Prop
  |true,K=>K true
  |false,K=>K false
def Counted (ks:List IntKind) (dom:List Int→Prop) (n:Nat):Prop:=∃all:List (List Int),all.Nodup∧all.length=n∧(∀k∈all,k.length=ks.length)∧∀k,k.length=ks.length→(k∈all↔dom k)
def mapOp (E:Env) (T:List V) (H:List O) (o:Oper) (K:KT):Prop:=
  match o.op with
  |.makeMap t none=>match mapT E t with
    |some (ks,ka,va,et)=>match(E.ti et).zero with
      |some z=>∀g:MG,ksK ks fun ks=>bK ka fun ka=>bK va fun va=>lenK H fun n=>forceL z fun z=>pushK H (.map ks ka va (fun _=>False) (fun _=>z) 0 g) fun H'=>putK T o.dst (.map n) fun T'=>K T' H'
      |none=>False
    |none=>False
  |.mapUpdate t m x v=>match mapT E t,ev T m,cells? (ev T v) with
    |some (ks,ka,va,_),.map id,some z=>match get .gone H id,keyV ks ka (ev T x) with
      |.map ks' ka' va' dom val n _,some k=>bif (ksEq ks ks' && bEq ka ka' && bEq va va' && foL z && (va || Nat.beq (len z) 1) && bEq va (ev T v).isAgg) then
          ∀g:MG,forceL z fun z=>setK H id (.map ks' ka' va' (a1l dom k) (valPut val k z) (nPut dom n k) g) fun H'=>putK T o.dst .any fun T'=>K T' H' else False
      |_,_=>False
    |_,_,_=>False
  |.call {callee:=.builtin .delete,args:=⟨[m,x]⟩,argTypes:=⟨[t,_]⟩}=>match mapT E t,ev T m with
    |some (ks,ka,va,_),.map id=>match get .gone H id,keyV ks ka (ev T x) with
      |.map ks' ka' va' dom val n g,some k=>bif (ksEq ks ks' && bEq ka ka' && bEq va va') then
          setK H id (.map ks' ka' va' (domDel dom k) val (nDel dom n k) g) fun H'=>putK T o.dst .any fun T'=>K T' H' else False
      |_,_=>False
    |_,_=>False
  |.range t x=>match mapT E t,ev T x with
    |some (_,_,_,_),.map id=>match get .gone H id with
      |.map ks' _ _ dom _ _ g=>lenK H fun i=>pushK H (.iter id g (fun k=>dom k∧k.length=ks'.length) []) fun H'=>putK T o.dst (.ptr i 0) fun T'=>K T' H'
      |_=>False
    |_,_=>False
  |.next x false=>match ev T x with
    |.ptr id 0=>match get .gone H id with
      |.iter mid g dom0 done=>match get .gone H mid with
        |.map ks ka va dom val n g'=>g=g'∧(∀k,k.length=ks.length→dom k→dom0 k)∧
            (allInts ks fun k=>dom k→k∉done→Counted ks dom n→setK H id (.iter mid g dom0 (k :: done)) fun H'=>putK T o.dst (.tup [.kb true,encKV ks ka k,encVV va (val k)]) fun T'=>K T' H')∧
            (allInts ks (fun k=>dom k→k∈done)→putK T o.dst (.tup [.kb false]) fun T'=>K T' H)
        |_=>False
      |_=>False
    |_=>False
  |_=>False
def V.isIte:V→Option Prop
  |.ite p _=>some p
  |_=>none
def a2e:Op→List Operand
  |.move _=>[]
  |.assign _=>[]
  |.pick c _ _=>[c]
  |o=>o.operands.toList
def conds (T:List V) (e:Prop):List Operand→Prop→Prop
  |[],K=>K
  |x :: l,K=>match(ev0 T x).isIte with
    |some p=>(e→p)∧conds T e l K
    |none=>conds T e l K
def stepPure (E:Env) (T:List V) (H:List O) (o:Oper) (K:KT) (L:Prop):Prop:=
  match a1f E T H o.op with
  |.bad=>L
  |.ok v=>conds T True (a2e o.op) (putK T o.dst v fun T'=>K T' H)
  |.need c v=>c∧conds T True (a2e o.op) (putK T o.dst v fun T'=>K T' H)
def softV (e:Prop) (v:V) (K:V→Prop):Prop:=
  match v with
  |.ite q u=>(e→q)∧K (.ite e u)
  |v=>K (.ite e v)
def softPure (E:Env) (T:List V) (H:List O) (e:Prop) (o:Oper) (K:KT) (L:Prop):Prop:=
  match a1f E T H o.op with
  |.bad=>L
  |.ok v=>conds T e (a2e o.op) (softV e v fun v=>putK T o.dst v fun T'=>K T' H)
  |.need c v=>(e→c)∧conds T e (a2e o.op) (softV e v fun v=>putK T o.dst v fun T'=>K T' H)
mutual
def shV (n:Nat):V→V
  |.int k x=>.int k x
  |.prop p d=>.prop p d
  |.kb b=>.kb b
  |.ptr id off=>.ptr (n+id) off
  |.eptr id sz i off=>.eptr (n+id) sz i off
  |.iptr cs=>.iptr cs
  |.sl sz m f=>.sl sz m f
  |.osl id m=>.osl (n+id) m
  |.map id=>.map (n+id)
  |.fn f a b=>.fn f (shL n a) (shL n b)
  |.agg cs=>.agg (shL n cs)
  |.tup cs=>.tup (shL n cs)
  |.lit v=>.lit v
  |.ite p v=>.ite p (shV n v)
  |.sem D=>.sem D
  |.imap ks ka va dom val m=>.imap ks ka va dom val m
  |.yld id=>.yld (n+id)
  |.win id sz off m=>.win (n+id) sz off m
  |.gsl id i m e=>.gsl (n+id) i m e
  |.gptr id i j off sz e=>.gptr (n+id) i j off sz e
  |.x e=>.x (e.sh n)
  |.any=>.any
def shL (n:Nat):List V→List V
  |[]=>[]
  |v :: l=>shV n v :: shL n l
end
def shO (n:Nat):O→O
  |.cells ty vs=>.cells ty (shL n vs)
  |.row ty sz m f nz=>.row ty sz m f nz
  |.map ks ka va dom val m g=>.map ks ka va dom val m g
  |.iter mid g dom done=>.iter (n+mid) g dom done
  |.loop T ps a b st=>.loop (shL n T) ps a b st
  |.gone=>.gone
  |.mapx ks ka va dom val=>.mapx ks ka va dom val
  |.grid ty ety esz k m f β hole nz=>.grid ty ety esz k m f β hole nz
def shH (n:Nat):List O→List O
  |[]=>[]
  |o :: l=>shO n o :: shH n l
def openK:List O→(List O→Prop)→Prop
  |[],K=>K []
  |.mapx ks ka va dom val :: l,K=>∀(n:Nat) (g:MG),openK l fun l=>K (.map ks ka va dom val n g :: l)
  |o :: l,K=>openK l fun l=>K (o :: l)
structure Sys where
    callee:FuncId→List V→List O→(V→List O→Prop)→Prop
    pcall:FuncId→List V→List O→V→Prop
    ncall:FuncId→List V→V→O→Prop
    nnew:FuncId→List V→(V→List O→Prop)→Prop
    yield:Nat→List V→List O→(V→List O→Prop)→Prop
    scall:((Nat→Prop)→World→Value→Prop)→List V→List O→(V→List O→Prop)→Prop
variable (S:Sys)
def callOp (T:List V) (H:List O) (o:Oper) (K:KT):Prop:=
  match o.op with
  |.call {callee:=.value f,args,..}=>match ev T f with
    |.fn (.func g) first cap=>forceL (app first (app (evs T args.toList) cap)) fun args=>S.callee g args H fun ret H'=>putK T o.dst ret fun T'=>K T' H'
    |.yld id=>forceL (evs T args.toList) fun args=>S.yield id args H fun ret H'=>putK T o.dst ret fun T'=>K T' H'
    |.sem D=>forceL (evs T args.toList) fun args=>S.scall D args H fun ret H'=>putK T o.dst ret fun T'=>K T' H'
    |_=>False
  |_=>False
def stepOp (E:Env) (T:List V) (H:List O) (o:Oper) (K:KT):Prop:=
  stepPure E T H o K (conds T True o.op.operands.toList (bif isGrid T H o then gridOp E T H o K else bif isExt T o then extOp E T H o K else bif isFrz T o then frzOp E T H o K else match o.op with
    |.call {callee:=.value _,..}=>callOp S T H o K
    |.call {callee:=.builtin b,..}=>(match b with
      |.delete=>mapOp E T H o K
      |_=>sliceOp E T H o K)
    |.makeMap _ _=>mapOp E T H o K
    |.mapUpdate _ _ _ _=>mapOp E T H o K
    |.range _ _=>mapOp E T H o K
    |.next _ _=>mapOp E T H o K
    |.buildSlice _ _ _=>sliceOp E T H o K
    |.makeSlice _ _ _=>sliceOp E T H o K
    |_=>heapOp E T H o K))
def guardDst:List Oper→Nat→Option Tmp
  |[],_=>none
  |o :: _,0=>o.dst
  |_ :: l,n+1=>guardDst l n
def softCall (_E:Env) (T:List V) (H:List O) (e:Prop) (o:Oper) (K:KT):Prop:=
  match o.op with
  |.call {callee:=.value f,args,..}=>conds T e o.op.operands.toList (match ev T f with
    |.fn (.func g) first cap=>forceL (app first (app (evs T args.toList) cap)) fun args=>∃v,(e→S.pcall g args H v)∧force v fun v=>putK T o.dst (.ite e v) fun T'=>K T' H
    |_=>False)
  |_=>False
def a1c (E:Env) (ops:List Oper) (K:KT):List Oper→KT
  |[],T,H=>K T H
  |o :: rest,T,H=>
    match o.guard with
    |none=>stepOp S E T H o (a1c E ops K rest)
    |some (j,want)=>
      match guardDst ops j with
      |none=>False
      |some g=>
      match get .any T g,want with
      |.kb true,true=>stepOp S E T H o (a1c E ops K rest)
      |.kb false,false=>stepOp S E T H o (a1c E ops K rest)
      |.kb _,_=>putK T o.dst (.tup []) fun T'=>a1c E ops K rest T' H
      |.prop p _,true=>
        softPure E T H p o (a1c E ops K rest)
          ((p→setK T g (.kb true) fun T=>stepOp S E T H o (a1c E ops K rest))∧
           (¬p→setK T g (.kb false) fun T=>putK T o.dst (.tup []) fun T'=>a1c E ops K rest T' H))
      |.prop p _,false=>
        softPure E T H (¬p) o (a1c E ops K rest)
          ((¬p→setK T g (.kb false) fun T=>stepOp S E T H o (a1c E ops K rest))∧
           (p→setK T g (.kb true) fun T=>putK T o.dst (.tup []) fun T'=>a1c E ops K rest T' H))
      |.ite q (.prop p _),true=>softPure E T H (q∧p) o (a1c E ops K rest) (softCall S E T H (q∧p) o (a1c E ops K rest))
      |.ite q (.prop p _),false=>softPure E T H (q∧¬p) o (a1c E ops K rest) (softCall S E T H (q∧¬p) o (a1c E ops K rest))
      |.tup [],_=>putK T o.dst (.tup []) fun T'=>a1c E ops K rest T' H
      |_,_=>False
def appK {α:Type} (H:List α):List α→(List α→Prop)→Prop
  |[],K=>K H
  |o :: l,K=>pushK H o fun H=>appK H l K
/-! ### regions whose order is drawn -/
inductive GV where
  |run
  |skip
  |soft (e:Prop)
  |bad
def guardV (ops:List Oper) (T:List V) (o:Oper):GV:=
  match o.guard with
  |none=>.run
  |some (j,want)=>match guardDst ops j with
    |none=>.bad
    |some g=>match get .any T g with
      |.kb b=>(match b,want with|true,true=>.run|false,false=>.run|_,_=>.skip)
      |.prop p _=>(match want with|true=>.soft p|false=>.soft (¬p))
      |.ite q v=>(match v with
        |.prop p _=>(match want with|true=>.soft (q∧p)|false=>.soft (q∧¬p))
        |.kb b=>(match b,want with|true,true=>.soft q|false,false=>.soft q|_,_=>.skip)
        |_=>.bad)
      |_=>.bad
def newOp (E:Env) (T:List V) (id:Nat) (o:Op) (K:V→O→Prop):Prop:=
  match o with
  |.box t x=>match cells? (ev T x) with
    |some z=>forceL z fun z=>K (.ptr id 0) (.cells t z)
    |none=>False
  |.alloc t=>match(E.ti t).known,(E.ti t).zero with
    |true,some z=>forceL z fun z=>K (.ptr id 0) (.cells t z)
    |_,_=>False
  |.buildSlice t n parts=>match a3a E t with
    |some e=>match(E.ti e).zero,rowsOf (E.ti e).size T 0 parts.toList with
      |some _,some rows=>bif (Nat.beq (len rows) n && Nat.ble 1 (E.ti e).size && Nat.ble (n*(E.ti e).size) 16777216) then
          (natK (E.ti e).size fun sz=>forceLL rows fun rows=>match rows with
            |[c]=>K (.osl id n) (.row e sz n (fun _=>c) false)
            |rows=>K (.osl id n) (.row e sz n (fun i=>get [] rows i) false))
          else False
      |_,_=>False
    |none=>False
  |.makeSlice t l c=>match a3a E t,ev T l,ev T c with
    |some e,.int _ l,.int _ c=>match(E.ti e).zero with
      |some z=>bif (foL z && Nat.ble (E.ti e).bytes 1024) then 0≤l∧l≤c∧c≤137438953472∧
          (natK (E.ti e).size fun sz=>forceL z fun z=>K (.osl id l.toNat) (.row e sz l.toNat (fun _=>z) false)) else False
      |none=>False
    |_,_,_=>False
  |_=>False
def drawOp (E:Env) (ops:List Oper) (H:List O) (T:List V) (id:Nat) (o:Oper) (K:V→Option O→Prop):Prop:=
  match guardV ops T o with
  |.bad=>False
  |.skip=>K .any none
  |.run=>(match a1f E T H o.op with
    |.ok v=>conds T True (a2e o.op) (force v fun v=>K v none)
    |.need c v=>c∧conds T True (a2e o.op) (force v fun v=>K v none)
    |.bad=>conds T True o.op.operands.toList (match o.op with
      |.call {callee:=.value f,args,..}=>(match ev T f with
        |.fn (.func g) first cap=>forceL (app first (app (evs T args.toList) cap)) fun args=>(∃v,S.pcall g args H v∧force v fun v=>K v none)∨(∃v ob,S.ncall g args v ob∧force (shV id v) fun v=>K v (some (shO id ob)))
        |_=>False)
      |op=>newOp E T id op fun v ob=>K v (some ob)))
  |.soft e=>(match a1f E T H o.op with
    |.ok v=>conds T e (a2e o.op) (softV e v fun v=>force v fun v=>K v none)
    |.need c v=>(e→c)∧conds T e (a2e o.op) (softV e v fun v=>force v fun v=>K v none)
    |.bad=>conds T e o.op.operands.toList (match o.op with
      |.call {callee:=.value f,args,..}=>(match ev T f with
        |.fn (.func g) first cap=>forceL (app first (app (evs T args.toList) cap)) fun args=>∃v,(e→S.pcall g args H v)∧force v fun v=>K (.ite e v) none
        |_=>False)
      |_=>False))
def isBuild:Op→Bool
  |.buildSlice _ _ _=>true
  |.makeSlice _ _ _=>true
  |.alloc _=>true
  |.box _ _=>true
  |_=>false
def needsB (ops:List Oper) (d:Nat):Bool:=
  ops.any fun o=>match o.guard with
    |none=>false
    |some (j,_)=>match guardDst ops j with
      |none=>false
      |some g=>Nat.beq g d && isBuild o.op
def splitV (ops:List Oper) (d:Nat) (v:V) (K:V→Prop):Prop:=
  match v with
  |.prop p e=>bif needsB ops d then(p→K (.kb true))∧(¬p→K (.kb false)) else K (.prop p e)
  |v=>K v
def drawOps (E:Env) (ops:List Oper) (H:List O) (K:List V→List O→Prop):List Oper→Nat→List V→List O→Prop
  |[],_,T,L=>K T L
  |o :: rest,id,T,L=>drawOp S E ops H T id o fun v ob=>(match o.dst with
    |none=>False
    |some d=>splitV ops d v fun v=>setK T d v fun T=>(match ob with
      |none=>drawOps E ops H K rest id T L
      |some b=>pushK L b fun L=>drawOps E ops H K rest (id+1) T L))
def looks (ops:List Oper) (o:Oper):List Tmp:=
  app (tmpsOf o.op.operands.toList) (match o.guard with
    |none=>[]
    |some (j,_)=>match guardDst ops j with
      |none=>[]
      |some g=>[g])
where tmpsOf:List Operand→List Tmp
  |[]=>[]
  |.tmp t :: l=>t :: tmpsOf l
  |_ :: l=>tmpsOf l
def hasEdge (o:Oper) (j:Nat):Bool:=o.after.toList.any fun e=>Region.binds .any e && Nat.beq e.on j
def a1m (ops:List Oper):Nat→Nat→List Nat
  |0,_=>[]
  |n+1,j=>match(ops[j]? : Option Oper) with
    |none=>[]
    |some o=>(o.after.toList.filter fun e=>Region.binds .any e).flatMap fun e=>e.on :: a1m ops n e.on
def lazies (ops:List Oper) (p:Nat):List Nat:=
  (List.range p).filter fun i=>(List.range ops.length).any fun j=>Nat.ble p j && !(a1m ops (j+1) j).contains i
def isLazy (o:Oper):Bool:=
  o.guard.isNone && (match o.op with|.extract _ _=>true|_=>false)
def drawOkZ (ops:List Oper) (p:Nat) (zs:List Nat):Bool:=
  (List.range ops.length).all (fun i=>match(ops[i]? : Option Oper) with
    |none=>false
    |some o=>o.after.toList.all (fun e=>!Region.binds .any e || decide (e.on<i))) &&
  (List.range p).all (fun i=>match(ops[i]? : Option Oper) with
    |none=>false
    |some o=>(List.range p).all (fun j=>match(ops[j]? : Option Oper) with
      |none=>false
      |some o'=>(Nat.beq i j || !(o.dst == o'.dst)) && (looks ops o).all (fun t=>!(o'.dst == some t) || (decide (j<i) && hasEdge o j)))) &&
  (List.range ops.length).all (fun j=>decide (j<p) || (let c:=a1m ops (j+1) j;(List.range j).all fun i=>c.contains i || zs.contains i)) &&
  Nat.ble p ops.length && (List.range p).all (fun i=>match(ops[i]? : Option Oper) with
    |none=>false
    |some o=>o.dst.isSome) &&
  zs.all (fun z=>decide (z<p))
def lazyOk (ops:List Oper) (zs:List Nat) (p:Nat):Bool:=
  zs.all (fun z=>decide (z<p) && (match(ops[z]? : Option Oper) with
    |none=>false
    |some o=>isLazy o))
def lateKind:Op→Bool
  |.move _|.assign _|.load _ _|.fieldAddr _ _ _|.field _ _ _|.indexAddr _ _ _|.binOp _ _ _ _ _|.unOp _ _ _|.extract _ _|.convert _ _ _|.nilCheck _|.lookup _ _ _ _|.build _ _|.makeSlice _ _ _|.buildSlice _ _ _|.alloc _=>true
  |_=>false
def midKind:Op→Bool
  |.store _ _ _|.move _|.assign _|.load _ _|.fieldAddr _ _ _|.field _ _ _|.indexAddr _ _ _|.extract _ _|.nilCheck _|.build _ _|.unOp _ _ _|.mapEntry _ _ _|.entryStore _ _ _ _=>true
  |.call {callee:=.builtin .append,args:=_,argTypes:=_}=>true
  |.call {callee:=.value _,args:=_,argTypes:=_}=>true
  |.call {callee:=.builtin .copy,args:=_,argTypes:=_}=>true
  |.buildSlice _ _ _=>true
  |_=>false
def lateQ (ops:List Oper) (p:Nat) (zs:List Nat):Nat:=
  ((List.range ops.length).find? fun q=>Nat.ble p q && (List.range ops.length).all fun j=>Nat.blt j q || zs.all fun z=>(a1m ops (j+1) j).contains z).getD ops.length
def lateOk (ops:List Oper) (p q:Nat) (zs:List Nat):Bool:=
  zs.all (fun z=>match(ops[z]? : Option Oper) with
    |none=>false
    |some o=>lateKind o.op && o.dst.isSome) &&
  Nat.ble p q && Nat.ble q ops.length &&
  (List.range ops.length).all (fun j=>Nat.blt j p || Nat.ble q j || (match(ops[j]? : Option Oper) with
    |none=>false
    |some o=>midKind o.op && (List.range p).all (fun i=>match(ops[i]? : Option Oper) with
      |none=>false
      |some o'=>!(o.dst.isSome && o.dst == o'.dst)))) &&
  (List.range ops.length).all (fun j=>Nat.blt j q || zs.all fun z=>(a1m ops (j+1) j).contains z)
def drawOk0 (ops:List Oper) (p:Nat):Bool:=
  bif Nat.blt p 1000 then drawOkZ ops p [] && lazyOk ops [] p else bif Nat.blt p 2000 then drawOkZ ops (p-1000) (lazies ops (p-1000)) && lazyOk ops (lazies ops (p-1000)) (p-1000)
  else drawOkZ ops (p-2000) (lazies ops (p-2000)) && lateOk ops (p-2000) (lateQ ops (p-2000) (lazies ops (p-2000))) (lazies ops (p-2000))
def renOp (pos:Nat→Nat) (o:Oper):Oper:={o with after:=(o.after.toList.map (fun e=>{e with on:=pos e.on})).toArray,guard:=o.guard.map (fun g=>(pos g.1,g.2))}
def posMv (f t i:Nat):Nat:=bif Nat.beq i f then t else bif Nat.ble t i && Nat.blt i f then i+1 else i
def invMv (f t k:Nat):Nat:=bif Nat.beq k t then f else bif Nat.blt t k && Nat.ble k f then k-1 else k
def mvOps (f t:Nat) (ops:List Oper):List Oper:=
  (List.range ops.length).filterMap fun k=>(ops[invMv f t k]? : Option Oper).map (renOp (posMv f t))
def mvOk (f t:Nat) (ops:List Oper):Bool:=
  Nat.ble t f && Nat.blt f ops.length && ops.all fun o=>o.after.toList.all (fun e=>Nat.blt e.on ops.length) && (match o.guard with
    |none=>true
    |some g=>Nat.blt g.1 ops.length)
def mvF (p:Nat):Nat:=(p / 10000 % 10000-1) % 100
def mvT (p:Nat):Nat:=(p / 10000 % 10000-1) / 100
def mvRest (p:Nat):Nat:=p % 10000+10000*(p / 100000000)
def edKind:Op→Bool
  |.move _=>true
  |.extract _ _=>true
  |.fieldAddr _ _ _=>true
  |_=>false
def edE (E:Env) (ops:List Oper) (z:Nat):Bool:=
  match(ops[z]? : Option Oper) with
  |none=>false
  |some o=>match o.op with
    |.fieldAddr s _ f=>(E.ti s).known && (fieldOf E s f).isSome
    |_=>true
def edPlain:Op→Bool
  |.select _ _=>false
  |.defer _=>false
  |_=>true
def edOps (z:Nat):Nat→List Oper→List Oper
  |_,[]=>[]
  |0,o :: l=>{o with after:=(app o.after.toList [{on:=z,ground:=.data}]).toArray} :: l
  |y+1,o :: l=>o :: edOps z y l
def edOk (z y:Nat) (ops:List Oper):Bool:=
  Nat.blt z y && Nat.blt y ops.length && ops.all (fun o=>edPlain o.op) && (match(ops[z]? : Option Oper) with
    |none=>false
    |some o=>edKind o.op && o.guard.isNone && (a1m ops (z+1) z).all (fun i=>(a1m ops (y+1) y).contains i) &&
      (List.range ops.length).all (fun j=>Nat.beq j z || (a1m ops (z+1) z).contains j || (match(ops[j]? : Option Oper) with
        |none=>true
        |some oj=>hasEdge oj z || Oper.apart ops.toArray o oj)))
def drawOkN:Nat→List Oper→Nat→Bool
  |0,ops,p=>drawOk0 ops p
  |n+1,ops,p=>bif Nat.ble 10000 p then(bif Nat.ble (mvT p) (mvF p) then mvOk (mvF p) (mvT p) ops && drawOkN n (mvOps (mvF p) (mvT p) ops) (mvRest p) else edOk (mvF p) (mvT p) ops && drawOkN n (edOps (mvF p) (mvT p) ops) (mvRest p)) else drawOk0 ops p
def drawOk (ops:List Oper) (p:Nat):Bool:=drawOkN 12 ops p
def zOk (E:Env) (T:List V) (H:List O) (K:Prop):List Oper→Prop
  |[]=>K
  |o :: l=>match a1f E T H o.op with
    |.ok _=>conds T True (a2e o.op) (zOk E T H K l)
    |_=>False
def clrK:List Oper→List V→(List V→Prop)→Prop
  |[],T,K=>K T
  |o :: l,T,K=>putK T o.dst .any fun T=>clrK l T K
def execOpsZ (E:Env) (ops zo:List Oper) (K:KT):List Oper→KT
  |[],T,H=>zOk E T H (K T H) zo
  |o :: rest,T,H=>zOk E T H (a1c S E ops (fun T' H'=>clrK zo T' fun T''=>execOpsZ E ops zo K rest T'' H') [o] T H) zo
def O.isGone:O→Bool
  |.gone=>true
  |_=>false
structure LZ where
  o:Oper
  d:Nat
  v:V
  id:Nat
  ob:Option O
def mkZ (T:List V) (H:List O):List Oper→Option (List LZ)
  |[]=>some []
  |o :: l=>match o.dst,mkZ T H l with
    |some d,some r=>(match o.op with
      |.makeSlice _ _ _=>(match get .any T d with
        |.osl id n=>(match get .gone H id with
          |.row ty sz k f nz=>some (⟨o,d,.osl id n,id,some (.row ty sz k f nz)⟩ :: r)
          |_=>none)
        |_=>none)
      |.buildSlice _ _ _=>(match get .any T d with
        |.osl id n=>(match get .gone H id with
          |.row ty sz k f nz=>some (⟨o,d,.osl id n,id,some (.row ty sz k f nz)⟩ :: r)
          |_=>none)
        |_=>none)
      |.alloc _=>(match get .any T d with
        |.ptr id 0=>(match get .gone H id with
          |.cells ty vs=>some (⟨o,d,.ptr id 0,id,some (.cells ty vs)⟩ :: r)
          |_=>none)
        |_=>none)
      |_=>some (⟨o,d,get .any T d,0,none⟩ :: r))
    |_,_=>none
def hideK:List LZ→List V→List O→(List V→List O→Prop)→Prop
  |[],T,H,K=>K T H
  |z :: l,T,H,K=>setK T z.d .any fun T=>(match z.ob with
    |none=>hideK l T H K
    |some _=>setK H z.id .gone fun H=>hideK l T H K)
def backT:List LZ→List V→(List V→Prop)→Prop
  |[],T,K=>K T
  |z :: l,T,K=>setK T z.d z.v fun T=>backT l T K
def backH:List LZ→List O→(List O→Prop)→Prop
  |[],H,K=>K H
  |z :: l,H,K=>(match z.ob with
    |none=>backH l H K
    |some b=>setK H z.id b fun H=>backH l H K)
def clrT:List LZ→List V→(List V→Prop)→Prop
  |[],T,K=>K T
  |z :: l,T,K=>setK T z.d .any fun T=>clrT l T K
def zSameK (E:Env) (ops:List Oper) (H0:List O) (T:List V) (K:Prop):List LZ→Prop
  |[]=>K
  |z :: l=>drawOp S E ops H0 T z.id z.o fun v ob=>v=z.v∧ob=z.ob∧zSameK E ops H0 T K l
def goneB (H:List O):List LZ→Bool
  |[]=>true
  |z :: l=>(match z.ob with
    |none=>true
    |some _=>Nat.blt z.id (len H) && (get .gone H z.id).isGone) && goneB H l
def midOp (E:Env) (T:List V) (H:List O) (o:Oper) (K:KT):Prop:=
  stepPure E T H o K (conds T True o.op.operands.toList (bif isGrid T H o then gridOp E T H o K else match o.op with
    |.store _ _ _=>heapOp E T H o K
    |.call {callee:=.builtin .append,args:=_,argTypes:=_}=>sliceOp E T H o K
    |.call {callee:=.value f,args,argTypes:=_}=>(match ev T f with
      |.fn (.func g) first cap=>forceL (app first (app (evs T args.toList) cap)) fun args=>(∃v,S.pcall g args H v∧force v fun v=>putK T o.dst v fun T'=>K T' H)∨
          (∃R,S.nnew g args R∧∀v obs,R v obs→lenK H fun n=>force (shV n v) fun v=>appK H (shH n obs) fun H'=>putK T o.dst v fun T'=>K T' H')∨
          (∃ps ids args' R,frzL (frzV 8 H) args=some (ps,ids,args')∧(∀p∈ps,p)∧S.nnew g args' R∧∀v obs,R v obs→goneK ids H fun H=>lenK H fun n=>force (shV n v) fun v=>appK H (shH n obs) fun H'=>putK T o.dst v fun T'=>K T' H')
      |_=>False)
    |.mapEntry _ _ _=>extOp E T H o K
    |.entryStore _ _ _ _=>extOp E T H o K
    |_=>False))
def noObj:List LZ→Bool
  |[]=>true
  |z :: l=>z.ob.isNone && noObj l
def isCallOp:Op→Bool
  |.call {callee:=.builtin .append,args:=_,argTypes:=_}=>true
  |.call {callee:=.builtin .copy,args:=_,argTypes:=_}=>true
  |.buildSlice _ _ _=>true
  |.call {callee:=.value _,args:=_,argTypes:=_}=>true
  |_=>false
def midG (E:Env) (ops:List Oper) (zd:List LZ) (T:List V) (H:List O) (o:Oper) (K:KT):Prop:=
  match guardV ops T o with
  |.run=>bif isCallOp o.op && noObj zd then stepOp S E T H o K else midOp S E T H o K
  |.skip=>putK T o.dst .any fun T=>K T H
  |_=>False
def sureZ (ops:List Oper) (zs:List Nat) (k:Nat):List LZ→List LZ
  |[]=>[]
  |x :: l=>bif zs.any (fun z=>(a1m ops (k+1) k).contains z && (match(ops[z]? : Option Oper) with
    |none=>false
    |some o=>o.dst == some x.d)) then x :: sureZ ops zs k l else sureZ ops zs k l
def keptH (H:List O) (K:Prop):List LZ→Prop
  |[]=>K
  |z :: l=>(match z.ob with
    |none=>keptH H K l
    |some b=>get .gone H z.id=b∧keptH H K l)
def a3d (E:Env) (ops:List Oper) (n:Nat) (zs:List Nat) (zd:List LZ) (K:KT):Nat→List Oper→KT
  |_,[],T,H=>bif goneB H zd then(backT zd T fun T'=>zSameK S E ops (take n H) T' (backH zd H fun H'=>K T' H') zd) else False
  |k,o :: rest,T,H=>bif goneB H zd then(backT zd T fun T'=>zSameK S E ops (take n H) T' (backT (sureZ ops zs k zd) T fun T=>backH (sureZ ops zs k zd) H fun H=>midG S E ops zd T H o fun T H=>keptH H (hideK (sureZ ops zs k zd) T H fun T H=>clrT zd T fun T=>a3d E ops n zs zd K (k+1) rest T H) (sureZ ops zs k zd)) zd) else False
def lateK (E:Env) (ops:List Oper) (p n:Nat) (K:KT) (T:List V) (H:List O):Prop:=
  match mkZ T H ((lazies ops p).filterMap (ops[·]?)) with
  |some zd=>hideK zd T H fun T H=>a3d S E ops n (lazies ops p) zd (fun T H=>a1c S E ops K (drop (lateQ ops p (lazies ops p)) ops) T H) p (take (lateQ ops p (lazies ops p)-p) (drop p ops)) T H
  |none=>False
def drawBody (E:Env) (ops:List Oper) (p:Nat) (K:KT) (T:List V) (H:List O):Prop:=
  bif Nat.ble 2000 p then lenK H fun n=>drawOps S E ops H (fun T' L=>appK H L fun H'=>lateK S E ops (p-2000) n K T' H') (take (p-2000) ops) n T [] else bif Nat.blt p 1000 then lenK H fun n=>drawOps S E ops H (fun T' L=>appK H L fun H'=>openK H' fun H'=>a1c S E ops K (drop p ops) T' H') (take p ops) n T []
    else lenK H fun n=>drawOps S E ops H (fun T' L=>appK H L fun H'=>openK H' fun H'=>clrK ((lazies ops (p-1000)).filterMap (ops[·]?)) T' fun T'=>execOpsZ S E ops ((lazies ops (p-1000)).filterMap (ops[·]?)) K (drop (p-1000) ops) T' H') (take (p-1000) ops) n T []
def drawBodyN (E:Env):Nat→List Oper→Nat→KT→KT
  |0,ops,p,K,T,H=>drawBody S E ops p K T H
  |n+1,ops,p,K,T,H=>bif Nat.ble 10000 p then(bif Nat.ble (mvT p) (mvF p) then drawBodyN E n (mvOps (mvF p) (mvT p) ops) (mvRest p) K T H else bif edE E ops (mvF p) then drawBodyN E n (edOps (mvF p) (mvT p) ops) (mvRest p) K T H else False) else drawBody S E ops p K T H
def DrawVC (E:Env) (ops:List Oper) (K:KT) (T:List V) (H:List O):Prop:=
  ∃p,drawOk ops p=true∧drawBodyN S E 12 ops p K T H
end
end Go.Sx
