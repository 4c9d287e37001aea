/- Part 0. -/
import Derived.WalkKit
namespace Go.Proofs.YtaamhakdhaolmaaGreatDoor
open Go.RowKit
set_option maxHeartbeats 8000000
set_option maxRecDepth 100000
variable {P:Prop}
set_option linter.all false
abbrev ac:=false
abbrev ae:=true
def Vj:=@Nat.le_refl
def Vk:=@bodyPost_ret
def Vl:=@Nat.le_trans
def Vm:=@if_neg
def Vn:=@Below.refl
def Vo:=@if_pos
def Vp:=@Nat.lt_of_lt_of_le
def Vq:=@Nat.le_of_lt
def Vr:=@run_string_add_sum
def Vs:=@Int.mul_le_mul
def Vt:=@Nat.lt_of_succ_le
def Vu:=@ByteArray.size_append
def Vv:=@List.getElem?_eq_getElem
def Vw:=@ByteArray.toList_eq
def Vx:=@List.forall_mem_cons
def Vy:=@Array.length_toList
def Vz:=@Array.getElem?_eq_some_iff
def VA:=@List.length_cons
def VB:=@Bool.and_eq_true
def VC:=@List.getElem_mem
def VD:=@beq_eq_false_iff_ne
def VE:=@List.mem_singleton
def VF:=@List.take_succ_eq_append_getElem
def VG:=@World.size_alloc
def VH:=@Nat.zero_le
def VI:=@List.length_append
def VJ:=@Int.lt_or_le
def VK:=@Int.mul_pos
def VL:=@List.mem_cons
def VM:=@List.length_take
def VN:=@Int.emod_lt_of_pos
def VO:=@List.take_of_length_le
def VP:=@Int.mul_nonneg
def VQ:=@List.drop_succ_cons
def VR:=@Int.pow_succ
def VS:=@Int.emod_nonneg
def VT:=@Int.dvd_of_emod_eq_zero
def VU:=@List.getElem?_take_of_lt
def VV:=@List.all_eq_true
def VW:=@Int.mul_le_mul_of_nonneg_left
def VX:=@List.append_assoc
def VY:=@List.length_eq_zero_iff
def VZ:=@List.getElem?_cons_succ
def V0:=@List.getElem?_cons_zero
def V1:=@List.drop_zero
def V2:=@decide_eq_true_eq
def V3:=@List.getElem?_eq_some_iff
def V4:=@List.getElem?_toArray
def V5:=@List.append_nil
def V6:=@Array.getD_eq_getD_getElem?
def V7:=@List.setIfInBounds_toArray
def V8:=@Int.neg_mul_neg
def V9:=@Nat.zero_add
def V_:=@Int.natAbs_mul
def Wa:=@List.take_length
def Wb:=@World.ownsRow.lt
def Wc:=@Int.le_of_lt
def Wd:=@Int.mul_assoc
def We:=@decide_eq_false
def Wf:=@List.length_nil
def Wg:=@IntWalk.i64_in
def Wi:=@Int.gcd_dvd_right
def Wj:=@List.set_cons_zero
def Wk:=@Int.mul_ediv_cancel_left
def Wl:=@Int.mul_le_mul_of_nonneg_right
def Wm:=@List.length_pos_iff
def Wn:=@Int.mul_add
def Wo:=@List.cons_append
def Wp:=@List.getElem?_append_right
def Wr:=@Int.eq_ofNat_of_zero_le
def Ws:=@Int.emod_eq_zero_of_dvd
def Wu:=@Int.mul_comm
def Wv:=@Nat.lt_or_ge
def Ww:=@List.take_append_of_le_length
def Wx:=@List.set_cons_succ
def Wy:=@List.mem_append
def WA:=@Int.gcd_dvd_left
def WB:=@if_true
def WC:=@Int.tmod_eq_emod_of_nonneg
def WD:=@Nat.pow_le_pow_right
def WE:=@Nat.mul_le_mul_right
def WF:=@List.length_drop
def WG:=@List.drop_eq_getElem_cons
def WI:=@Option.some.injEq
def WJ:=@Int.mul_ne_zero
def WK:=@cond_false
def WL:=@info_parts
def WM:=@Int.add_zero
def WN:=@List.isSuffixOf_iff_suffix
def WO:=@beq_iff_eq
def WP:=@List.nil_append
def WQ:=@Int.mul_eq_zero
def WR:=@List.getElem?_append_left
def WS:=@Array.getElem?_toList
def WT:=@cond_true
def WU:=@List.map_cons
def WV:=@Int.emod_emod_of_dvd
def WW:=@Option.some.inj
def WX:=@List.cons.inj
def WY:=@Int.tdiv_eq_ediv_of_nonneg
def WZ:=@Int.ediv_le_self
def W_:=@List.getElem?_drop
def Xa:=@List.getElem?_eq_none
def Xb:=@List.mem_of_find?_eq_some
def Xc:=@List.mem_of_mem_take
def Xd:=@List.mem_cons_of_mem
def Xe:=@Option.isSome_iff_exists
def Xf:=@List.mem_of_mem_drop
def Xg:=@Int.mul_emod
def Xh:=@Int.ediv_nonneg
def Xi:=@List.map_append
def Xj:=@Int.mul_left_comm
def Xk:=@Bool.not_eq_true'
def Xl:=@Int.dvd_mul_of_dvd_left
def Xm:=@List.toList_toArray
def Xn:=@decide_eq_true
def Xo:=@List.mem_range
def Xp:=@Nat.mul_le_mul
def Xq:=@Bool.false_eq_true
def Xr:=@List.pairwise_cons
def Xs:=@UInt8.toNat_inj
def Xt:=@Bool.or_eq_true
def Xu:=@Bool.eq_iff_iff
def Xv:=@List.getD_eq_getElem?_getD
def Xw:=@Nat.add_assoc
def Xx:=@Int.emod_eq_of_lt
def Xy:=@Int.mul_neg_of_pos_of_neg
def Xz:=@Int.eq_of_mul_eq_mul_left
def XA:=@Int.one_mul
def XB:=@Nat.sub_self
def XC:=@Nat.add_comm
def XD:=@Nat.shiftLeft_eq
def XE:=@Go.IntWalk.i64_left
def XF:=@World.ownsRow.alloc
def XG:=@Nat.two_pow_pos
def XH:=@List.drop_of_length_le
def XI:=@List.getElem_cons_zero
def XJ:=@Int.ediv_eq_zero_of_lt
def XK:=@World.ownsRow_nil
def XL:=@List.foldl_append
def XM:=@List.length_singleton
def XN:=@Int.emod_add_mul_ediv
def XO:=@Int.dvd_refl
def XP:=@Int.natAbs_dvd_natAbs
def XQ:=@Int.add_mul_ediv_left
def XR:=@Nat.Coprime.mul_right
def XS:=@Option.getD_some
def XT:=@Int.mul_tdiv_cancel'
def XU:=@Int.ediv_pos_of_pos_of_dvd
def XV:=@Int.mul_neg
def XW:=@Nat.add_mul
def XX:=@Array.toList_append
def XY:=@Nat.min_eq_left
def XZ:=@List.mem_or_eq_of_mem_set
def X0:=@List.find?_some
def X3:=@Classical.byContradiction
def X4:=@Array.getElem?_eq_getElem
def X5:=@Nat.pow_succ
def X6:=@decide_false
def X7:=@List.map_nil
def X8:=@List.getElem?_take
def X9:=@List.mem_map
def X_:=@List.find?_eq_none
def Ya:=@Int.mul_zero
def Yb:=@Int.mul_tdiv_cancel_left
def Yc:=@Act.put_comm
def Yd:=@Int.pow_zero
def Ye:=@Nat.lt_trans
def Yf:=@Int.ofNat_dvd_left
def Yg:=@run_underlying
def Yh:=@Bool.and_false
def Yi:=@List.getLast_eq_getElem
def Yj:=@Int.dvd_of_tmod_eq_zero
def Yk:=@Result.andThen_ok
def Yl:=@List.size_toArray
def Ym:=@Value.slice.injEq
def Yn:=@Nat.gcd_dvd_right
def Yo:=@wpList_append_own
def Yp:=@of_decide_eq_true
def Yq:=@setRow_heap
def Yr:=@Array.getElem?_eq_none
def Ys:=@Int.le_of_dvd
def Yt:=@List.map_toArray
def Yu:=@Option.bind_some
def Yv:=@List.length_filter_le
def Yw:=@Int.mul_ediv_add_emod
def Yx:=@List.length_map
def Yy:=@List.count_cons
def Yz:=@List.find?_cons
def YA:=@Int.gcd_pos_iff
def YB:=@Int.le_total
def YC:=@Int.tdiv_neg
def YD:=@Nat.mul_le_mul_left
def YE:=@List.replicate_succ
def YF:=@List.take_succ_cons
def YG:=@run_callFunc_extern
def YH:=@List.take_take
def YI:=@decide_true
def YJ:=@Int.add_mul
def YK:=@wpStill_nil
def YL:=@Int.dvd_gcd
def YM:=@Nat.pow_add
def YN:=@wpOp_mono
def YO:=@Int.sub_eq_add_neg
def YP:=@Nat.eq_or_lt_of_le
def YQ:=@and_assoc
def YR:=@Nat.shiftLeft_zero
def YS:=@Nat.add_sub_cancel
def YT:=@Addr.mk.injEq
def YU:=@Int.add_assoc
def YV:=@Bool.true_and
def YW:=@Int.toNat_natCast
def YX:=@Int.lt_trichotomy
def YY:=@List.getElem?_map
def YZ:=@List.take_add_one
def Y0:=@Int.not_lt
def Y3:=@ready_mono
def Y4:=@dif_neg
def Y5:=@wpList_plain
def Y6:=@Sem.run_bind
def Y7:=@Sem.run_pure
def Y8:=@Nat.le_of_eq
def Y9:=@List.drop_length
def Y_:=@Nat.coprime_comm
def Za:=@Nat.gcd_dvd_left
def Zb:=@Nat.mod_eq_of_lt
def Zc:=@Below.heap_alloc
def Zd:=@List.not_mem_nil
def Ze:=@decide_eq_false_iff_not
def Zf:=@Nat.div_lt_self
def Zg:=@Int.natCast_mul
def Zh:=@List.set_append
def Zi:=@List.mem_filter
def Zj:=@List.nodup_cons
def Zk:=@mem_ready
def Zl:=@Int.natAbs_zero
def Zm:=@Int.natAbs_tdiv
def Zn:=@Int.natAbs_tmod
def Zo:=@Nat.div_le_self
def Zp:=@Nat.min_def
def Zq:=@Int.dvd_neg
def Zr:=@List.take_zero
def Zs:=@List.length_replicate
def Zt:=@if_false
def Zu:=@List.contains_eq_mem
def Zv:=@ByteArray.ext
def Zw:=@Bool.toNat_le
def Zx:=@Nat.sub_zero
def Zy:=@Int.zero_mul
def Zz:=@setRow_other
abbrev cj(m n:Nat):List Bool:=List.replicate m true++List.replicate n false
abbrev bk(m n:Nat):List Bool:=List.replicate m false++List.replicate n true
abbrev eK:=Value->Int->Int->ByteArray->World->Prop
abbrev av:=World->Prop
abbrev bW:=List ByteArray
abbrev ak:=ByteArray
abbrev ck:=Option Addr
abbrev af:=Below
abbrev bh(x:Int):Prop:= -1000<=x/\x<=1000
abbrev a_(x:Int):Prop:= -10000<=x/\x<=10000
abbrev sV(x:Int):Prop:= -1000000000<=x/\x<=1000000000
abbrev iZ(x:Int):Prop:= -4000000000000000000<=x/\x<=4000000000000000000
def aJ(h:P:=by simp [intOf];omega):=h
def aB{D:World->Prop}:∀w:World,D w->True:=λ_ _=>trivial
def k_(h : P := by kernel_rfl) : P := h
def r_(h : P := by rfl) : P := h
def o_(h : P := by omega) : P := h
def h_{P : Prop}(h : P) : Hid P := h
def s_(h : P := by simp) : P := h
def u_(h : P := by simp; omega) : P := h
def d_(h : P := by decide) : P := h
def ap{P C : Prop}(c : C)(h : C -> P := by intro g; simp only [Act.put, V7, Wx, Wj]; exact g) : P := h c
def aj{P}{f:Nat}{a}{w}{E}{R:World->Prop}{Q:Ending->World->Prop}(h:Calls P f a w λe w'=>e=E/\R w')(k:∀w',R w'->Q E w'):Calls P f a w Q:=h.mono λ_ w' h=>h.1▸k w' h.2
def aA{P}{f:Nat}{a}{w}{E}{Q:Ending->World->Prop}(h:Calls P f a w λe w'=>e=E/\w=w')(k:Q E w):Calls P f a w Q:=h.mono λ_ w' h=>h.1▸h.2▸k
instance:Coe Int Value:=⟨.int .i64⟩
instance:Coe Nat Value:=⟨λn=>.int .i64 n⟩
instance:Coe Bool Value:=⟨.bool⟩
instance:Coe ByteArray Value:=⟨.string⟩
instance:Coe World Nat:=⟨λw=>w.heap.size⟩
instance:Coe Nat Addr:=⟨λr=>⟨r,0,none⟩⟩
instance:Coe Nat (Option Addr):=⟨λr=>some ⟨r,0,none⟩⟩
instance:Coe Unit Value:=⟨λ_=>.int .i64 0⟩
def z_(h : P := by (repeat' (first | (with_reducible exact Vn _ _) | (with_reducible refine ag (by assumption) ?_ ?_) | (with_reducible refine Below.alloc ?_ ?_ _) | (with_reducible refine Below.setCell ?_ ?_ _) | (with_reducible refine lr ?_ _) | (with_reducible refine Below.drew ?_) | omega | (simp; omega) | (simp; done)))) : P := h
section
def Cg(p a b:Int):Prop:=a % p=b % p
def Cg.refl(p a):Cg p a a:=rfl
def Cg.trans{p a b c}(h:Cg p a b)(k:Cg p b c):Cg p a c:=Eq.trans h k
def Cg.add{p a b c d}(h:Cg p a b)(k:Cg p c d):Cg p (a+c) (b+d):=by
 unfold Cg at *;rw[Int.add_emod,h,k,<-Int.add_emod]
def Cg.mul{p a b c d}(h:Cg p a b)(k:Cg p c d):Cg p (a*c) (b*d):=by
 unfold Cg at *;rw[Xg,h,k,<-Xg]
def Cg.mod(p a):Cg p (a % p) a:=WV _ (XO p)
def Cg.mod'{p a b}(h:Cg p a b):Cg p (a % p) b:=(Cg.mod p a).trans h
end
def cn(b:UInt8):List UInt8->List (List UInt8)
 |[]=>[[]]
 |x::l=>if x=b then []::cn b l else match cn b l with
  |[]=>[[x]]
  |p::g=>(x::p)::g
def jB(p:List UInt8):List (List UInt8)->List (List UInt8)
 |[]=>[p]
 |q::g=>(p++q)::g
def js(b x:UInt8)(l):cn b (x::l)=if x=b then []::cn b l else jB [x] (cn b l):=by
 rw[cn];split
 .rfl
 .cases cn b l<;>rfl
def PS(p q)(L:List (List UInt8)):jB p (jB q L)=jB (p++q) L:=by
 cases L<;>simp [jB]
def DU:∀(L:List (List UInt8)),L≠[]->jB [] L=L
 |[],h=>absurd rfl h
 |_::_,_=>rfl
def nX(b:UInt8)(l):cn b l≠[]:=by
 cases l with
 |nil=>simp [cn]
 |cons x l=>
  rw[js];split
  .simp
  .cases cn b l<;>simp [jB]
theorem tT(b:UInt8):∀(p l),b∉p->cn b (p++b::l)=p::cn b l
 |[],l,_=>by rw[WP,js,Vo rfl]
 |x::p,l,h=>by
  have hx:x≠b:=λe=>h (by simp [e]);rw[Wo,js,Vm hx,tT b p l (λhm=>h (by simp [hm]))];rfl
theorem ui(b:UInt8):∀(p),b∉p->cn b p=[p]
 |[],_=>rfl
 |x::p,h=>by
  have hx:x≠b:=λe=>h (by simp [e]);rw[js,Vm hx,ui b p (λhm=>h (by simp [hm]))];rfl
def aw(n lo hi:Int):Bool:=decide (lo<=n)&&decide (n<=hi)
def Eh{n lo hi}:aw n lo hi=true↔lo<=n/\n<=hi:=by unfold aw;simp
def bO{n lo hi}(h:aw n lo hi=true):lo<=n/\n<=hi:=Eh.1 h
def gv{n lo hi}(h:lo<=n)(J:n<=hi):aw n lo hi=true:=Eh.2 ⟨h,J⟩
def SX(a m:Int)(h:0<m):-m<a.tmod m/\a.tmod m<m:=by
 have h1:=VS a (show m≠0 by omega);have h2:=VN a h;rw[Int.tmod_eq_emod];split<;>omega
def C0(a m)(h0:0<m)(h1:m<=4000000000000000000):(wrap64 (a.tmod m+m)).tmod m=a % m:=by
 have hb:=SX a m h0;rw[IntWalk.wrap64_in _ o_,WC o_,Int.add_emod_right,Int.tmod_eq_emod];split
 .simp
 .have:m.natAbs=m:=o_
  rw[this];simp [Int.sub_emod_right]
def ej(a n p:Int):Int:=(a ^ n.toNat) % p
def Er(a n p)(h:1<=p):0<=ej a n p/\ej a n p<p:=⟨VS _ o_,VN _ o_⟩
def rh(a p:Int)(k):(a % p) ^ k % p=a ^ k % p:=by
 induction k with
 |zero=>simp
 |succ k g=>rw[VR,VR,Xg,g,WV _ (XO p),<-Xg]
def RZ(b:Int)(n:Int)(h:0<n):b ^ n.toNat=(b*b) ^ (n / 2).toNat*(if n % 2=1 then b else 1):=by
 have e:n.toNat=2*(n / 2).toNat+(n % 2).toNat:=o_
 have e2:(b*b) ^ (n / 2).toNat=b ^ (2*(n / 2).toNat):=by
  rw[Int.pow_mul];congr 1;rw[VR,VR];simp
 rw[e2];rcases Int.emod_two_eq n with h2|h2
 .rw[Vm o_,Int.mul_one];congr 1;omega
 .rw[Vo h2,<-VR];congr 1;omega
def Dh(o b n p:Int)(h:0<n):
 ((if n % 2=1 then o*b % p else o)*(b*b % p) ^ (n / 2).toNat) % p=(o*b ^ n.toNat) % p:=by
 rw[RZ b n h];have e:∀x:Int,(x*(b*b % p) ^ (n / 2).toNat) % p=(x*(b*b) ^ (n / 2).toNat) % p:=λx=>by
  rw[Xg,rh,<-Xg]
 split
 .rw[e,Xg,WV _ (XO p),<-Xg];congr 1;rw[Wd,Wu b]
 .rw[e,Int.mul_one]
def gz(a p:Int):Int:=ej a (p - 2) p
def A_(n p:Int):Int:=if n=p - 1 then -1 else n
def fc(a p:Int):Int:=A_ (ej a ((p - 1) / 2) p) p
def gA(a p:Int):Int:=if ej a ((p - 1) / 2) p=0 then 0 else if ej a ((p - 1) / 2) p=1 then 1 else -1
def ss(n:Int):Prop:=∀d:Int,2<=d->d*d<=n->n % d≠0
open Classical in
noncomputable def cH(n:Int):Bool:=decide (2<=n/\ss n)
def xl{n}(h:cH n=true):2<=n/\ss n:=by unfold cH at h;simpa using h
def C9{n}(h:2<=n)(J:ss n):cH n=true:=by unfold cH;simpa using ⟨h,J⟩
def PY{n d}(h:2<=d)(J:d*d<=n)(h2:n % d=0):cH n=false:=by
 unfold cH;simp;intro _ hn;exact absurd h2 (hn d h J)
def Qm{n}(h:n<2):cH n=false:=by
 unfold cH;simp;intro h2;omega
def Dl{n d}(hd:2<=d)(h:∀c:Int,2<=c->c<d->n % c≠0)(bi:n<d*d):ss n:=by
 intro c hc F;by_cases g:c<d
 .exact h c hc g
 .exfalso;have:d*d<=c*c:=Vs o_ o_ o_ o_;omega
section
def dg(n:Nat):List Int:=if h:n=0 then [] else (n % 10000:Nat)::dg (n / 10000)
termination_by n
decreasing_by exact Zf o_ d_
def vl:List Int->Int
 |[]=>0
 |x::l=>x+10000*vl l
def Dg(l:List Int):Prop:=∀x∈l,0<=x/\x<=9999
def iN:dg 0=[]:=by rw[dg];simp
def uT{n}(h:n≠0):dg n=((n % 10000:Nat):Int)::dg (n / 10000):=by rw[dg];simp [h]
def Dg.tail{x}{l}(h:Dg (x::l)):Dg l:=λy hy=>h y (by simp [hy])
def Dg.head{x}{l}(h:Dg (x::l)):0<=x/\x<=9999:=h x s_
def Dg.take{l}(h:Dg l)(k):Dg (l.take k):=λy hy=>h y (Xc hy)
theorem Ib:∀{l},(∀x∈l,0<=x)->0<=vl l
 |[],_=>Int.le_refl _
 |x::l,h=>by
  have h1:=Ib (l:=l) λy hy=>h y (by simp [hy]);have h2:=h x s_;unfold vl;omega
def Dg.nn{l}(h:Dg l):0<=vl l:=Ib λx hx=>(h x hx).1
def Dg.lt:∀{l},Dg l->vl l<10000 ^ l.length
 |[],_=>by decide
 |x::l,h=>by
  have h1:=h.tail.lt;have h2:=h.head;have h3:(10000:Int) ^ (l.length+1)=10000 ^ l.length*10000:=VR _ _;rw[VA,h3];unfold vl;omega
theorem tL:∀(l m),vl (l++m)=vl l+10000 ^ l.length*vl m
 |[],m=>by simp [vl]
 |x::l,m=>by
  have h3:(10000:Int) ^ (l.length+1)=10000 ^ l.length*10000:=VR _ _;rw[Wo,vl,vl,(tL l m),VA,h3,Wn,<-YU];congr 1;rw[Wu (10000 ^ l.length) 10000,Wd]
theorem ym:∀k:Nat,vl (List.replicate k 0)=0
 |0=>rfl
 |k+1=>by rw[YE,vl,ym k];rfl
def NI{l:List Int}{k}(h:k<l.length):vl (l.take (k+1))=vl (l.take k)+10000 ^ k*l[k]:=by
 rw[VF h,tL,VM,XY o_];simp [vl]
def kj(l:List Int):Prop:=∀h:l≠[],l.getLast h≠0
def kj.tail{x}{l}(h:kj (x::l)):kj l:=λhl=>by
 have:=h s_;rwa [List.getLast_cons hl] at this
theorem yM:∀{l},Dg l->kj l->l≠[]->1<=vl l
 |[],_,_,h=>absurd rfl h
 |[x],hd,hl,_=>by
  have h1:=hl s_;have h2:=hd.head;simp at h1;show 1<=x+10000*0;omega
 |x::y::l,hd,hl,_=>by
  have h1:=yM hd.tail hl.tail s_;have h2:=hd.head;rw[vl];omega
theorem Fp:∀{l},Dg l->kj l->l=dg (vl l).toNat
 |[],_,_=>by simp [vl,iN]
 |x::l,hd,hl=>by
  have h1:=yM hd hl s_;have h2:=hd.head;have h3:=hd.tail.nn;rw[uT o_];have e:vl (x::l)=x+10000*vl l:=rfl;have e1:(((vl (x::l)).toNat % 10000:Nat):Int)=x:=by rw[e];omega
  have e2:(vl (x::l)).toNat / 10000=(vl l).toNat:=by rw[e];omega
  rw[e1,e2,<-(Fp hd.tail hl.tail)]
def ke(n):Dg (dg n)/\kj (dg n)/\vl (dg n)=n:=by
 induction n using Nat.strongRecOn with
 |ind n g=>
  by_cases h:n=0
  .subst h;rw[iN];exact⟨λx hx=>by simp at hx,λh=>absurd rfl h,rfl⟩
  .rw[uT h];have⟨h1,h2,h3⟩:=g (n / 10000) (Zf o_ d_);refine⟨λx hx=>?_,λhne=>?_,?_⟩
   .rcases VL.1 hx with rfl|hx
    .omega
    .exact h1 x hx
   .by_cases hq:dg (n / 10000)=[]
    .have:n / 10000=0:=by
      rw[hq] at h3;simp only[vl] at h3;omega
     simp only[hq,List.getLast_singleton];omega
    .rw[List.getLast_cons hq];exact h2 hq
   .rw[vl,h3];omega
def tr(l:List Int):List Int:=(l.reverse.dropWhile (·==0)).reverse
def BF(l):tr (l++[0])=tr l:=by simp [tr]
def EG{x}(l)(h:x≠0):tr (l++[x])=l++[x]:=by simp [tr,h]
def ET{l:List Int}{k}(h:k<l.length)(h0:l[k]=0):tr (l.take (k+1))=tr (l.take k):=by
 rw[VF h,h0,BF]
def Em{l:List Int}{k}(h:k<l.length)(h0:l[k]≠0):tr (l.take (k+1))=l.take (k+1):=by
 rw[VF h,EG _ h0]
def OO{α:Type}(l:List α):l=[]\/∃m x,l=m++[x]:=by
 rcases List.eq_nil_or_concat l with h|⟨m,x,h⟩
 .exact .inl h
 .exact .inr ⟨m,x,by simpa using h⟩
theorem DQ:∀(n) (l),l.length=n->Dg l->kj (tr l)/\Dg (tr l)/\vl (tr l)=vl l
 |0,l,hn,_=>by
  have:=VY.1 hn;subst this;exact⟨λh=>absurd rfl h,λx hx=>by simp [tr] at hx,rfl⟩
 |n+1,l,hn,hd=>by
  rcases OO l with rfl|⟨m,x,rfl⟩
  .simp at hn
  .have hm:=by simpa using hn
   have H:Dg m:=λy hy=>hd y (by simp [hy]);by_cases hx:x=0
   .subst hx;rw[BF];have⟨h1,h2,h3⟩:=DQ n m hm H;refine⟨h1,h2,?_⟩;rw[h3,tL];simp [vl]
   .rw[EG _ hx];exact⟨λh=>by simpa using hx,hd,rfl⟩
def sC{l}(h:Dg l):tr l=dg (vl l).toNat:=by
 have⟨h1,h2,h3⟩:=DQ _ l rfl h;have:=Fp h2 h1;rwa [h3] at this
def uH{n}:dg n=[]↔n=0:=by
 constructor
 .intro h;have:=(ke n).2.2;rw[h] at this;simp only[vl] at this;omega
 .rintro rfl;exact iN
def ft{n k}(h:n<10000 ^ k):(dg n).length<=k:=by
 induction k generalizing n with
 |zero=>
  have:=by simpa using h
  subst this;simp [iN]
 |succ k g=>
  by_cases hn:n=0
  .subst hn;simp [iN]
  .rw[uT hn,VA];have:=g (n:=n / 10000) (by
    rw[X5] at h;exact Nat.div_lt_of_lt_mul o_)
   omega
theorem Ff:∀{l},Dg l->kj l->l≠[]->10000 ^ (l.length - 1)<=vl l
 |[],_,_,h=>absurd rfl h
 |[x],hd,hl,_=>by
  have:=yM hd hl s_;simpa using this
 |x::y::l,hd,hl,_=>by
  have h1:=Ff hd.tail hl.tail s_;have h2:=hd.head;have e:(10000:Int) ^ ((x::y::l).length - 1)=10000 ^ ((y::l).length - 1)*10000:=by
   simp;exact VR _ _
  rw[e,vl];omega
end
def zr(p:Nat):Bool:=decide (2<=p)&&(List.range 32).all λd=>decide (d<2)||decide (p<d*d)||decide (p % d≠0)
def pa(p:Nat):Bool:=!zr p||decide (p<3)||(List.range p).all λa=>(a ^ ((p - 1) / 2)) % p==0||(a ^ ((p - 1) / 2)) % p==1||(a ^ ((p - 1) / 2)) % p==p - 1
def Tp:(List.range 400).all pa=true:=by decide+kernel
def S7:(List.range 250).all (λk=>pa (k+400))=true:=by decide+kernel
def ST:(List.range 200).all (λk=>pa (k+650))=true:=by decide+kernel
def Th:(List.range 150).all (λk=>pa (k+850))=true:=by decide+kernel
def Qp(p:Nat)(h:p<1000):pa p=true:=by
 by_cases h0:p<400
 .exact VV.1 Tp p (by simpa using h0)
 by_cases h1:p<650
 .have:=VV.1 S7 (p - 400) u_;rwa [show p - 400+400=p by omega] at this
 by_cases h2:p<850
 .have:=VV.1 ST (p - 650) u_;rwa [show p - 650+650=p by omega] at this
 .have:=VV.1 Th (p - 850) u_;rwa [show p - 850+850=p by omega] at this
def QA(p:Nat)(h:cH p=true)(hl:p<1000):zr p=true:=by
 obtain⟨h2,hn⟩:=xl h;unfold zr;rw[VB];refine⟨by simpa using (by omega:2<=p),?_⟩;rw[VV];intro d hd;by_cases bp:d<2
 .simp [bp]
 by_cases bi:p<d*d
 .simp [bi]
 .have h1:=hn d o_ (by
   have:((d*d:Nat):Int)<=(p:Nat):=o_
   simpa using this)
  have h3:p % d≠0:=λe=>h1 (by
   have:((p % d:Nat):Int)=0:=o_
   simpa using this)
  simp [h3]
def UI(a p:Int)(h:cH p=true)(h3:3<=p)(h1:p<1000):
 ej a ((p - 1) / 2) p=0\/ej a ((p - 1) / 2) p=1\/ej a ((p - 1) / 2) p=p - 1:=by
 obtain⟨q,rfl⟩:=Wr (show 0<=p by omega);obtain⟨b,hb⟩:=Wr (VS a (show (q:Int)≠0 by omega));have aG:=VN a (show (0:Int)<q by omega);have G:=QA q h o_;have he:=Qp q o_;unfold pa at he;rw[G] at he;have g:¬q<3:=o_;simp only[g,X6,Bool.not_true,Bool.false_or,Bool.or_false] at he;have U:=VV.1 he b u_;have e:ej a (((q:Int) - 1) / 2) q=((b ^ ((q - 1) / 2) % q:Nat):Int):=by
  unfold ej;rw[<-rh,hb];have:(((q:Int) - 1) / 2).toNat=(q - 1) / 2:=o_
  rw[this];simp
 rw[e];simp only[Xt,WO] at U;omega
def uL(a p:Int)(h:cH p=true)(h3:3<=p)(h1:p<1000):gA a p=fc a p:=by
 unfold gA fc A_;rcases UI a p h h3 h1 with e|e|e<;>rw[e]
 .rw[Vo rfl,Vm o_]
 .rw[Vm o_,Vo rfl,Vm o_]
 .rw[Vm o_,Vm o_,Vo rfl]
def oA(h:P:=by
 go_wp2;go_ret;exact⟨rfl,ag I J.size J⟩):=h
section
def Nc{p:Nat}(G:2<=p)(hd:ss (p)){a}(ha:¬p∣a):Nat.Coprime p a:=by
 have hg:=Za p a;have b3:=Yn p a;have⟨k,hk⟩:=hg;generalize F:Nat.gcd p a=g at hk b3;show Nat.gcd p a=1;rw[F];by_cases h1:g=1
 .exact h1
 exfalso;have g0:g≠0:=by rintro rfl;omega
 have k0:k≠0:=by rintro rfl;omega
 by_cases ab:k=1
 .subst ab;rw[Nat.mul_one] at hk;exact ha (hk▸b3)
 rcases Nat.le_total g k with cm|cm
 .have h2:((g:Int)*g)<=p:=by
   have:=YD g cm;have:g*g<=p:=o_
   exact_mod_cast this
  refine hd g o_ h2 ?_;have:p % g=0:=by rw[hk];exact Nat.mul_mod_right g k
  exact_mod_cast this
 .have h2:((k:Int)*k)<=p:=by
   have:=WE k cm;have:k*k<=p:=o_
   exact_mod_cast this
  refine hd k o_ h2 ?_;have:p % k=0:=by rw[hk];exact Nat.mul_mod_left g k
  exact_mod_cast this
end
section
def e_(p:Nat->Bool):Nat->List UInt8->List UInt8
 |_,[]=>[]
 |n,x::l=>(if p n then [] else [x])++e_ p (if x=10 then n+1 else n) l
theorem tM(p:Nat->Bool):∀(l m) n,e_ p n (l++m)=e_ p n l++e_ p (n+l.count 10) m
 |[],m,n=>rfl
 |x::l,m,n=>by
  rw[Wo,e_,e_,tM p l m,VX];by_cases h:x=10
  .subst h;rw[Vo rfl,List.count_cons_self,show n+1+l.count 10=n+(l.count 10+1) by omega]
  .rw[Vm h,List.count_cons_of_ne h]
def Px(p:Nat->Bool) l (x:UInt8)(n):e_ p n (l++[x])=e_ p n l++(if p (n+l.count 10) then [] else [x]):=by
 rw[tM,e_,e_,V5]
theorem tO(p:Nat->Bool):∀(l) n,(e_ p n l).Sublist l
 |[],_=>List.Sublist.refl _
 |x::l,n=>by
  rw[e_];split
  .exact (tO p l _).cons x
  .exact (tO p l _).cons_cons x
def gR(K:List (List UInt8)):List UInt8:=K.flatMap (·++[10])
theorem CA:∀l,gR (cn 10 l)=l++[10]
 |[]=>rfl
 |x::l=>by
  have g:=CA l;rw[js];split
  .next h=>subst h;show []++[10]++gR (cn 10 l)=_;rw[g];rfl
  .cases hc:cn 10 l with
   |nil=>exact absurd hc (nX 10 l)
   |cons a t=>
    rw[hc] at g;show (x::a)++[10]++gR t=_;rw[Wo,Wo,Wo,<-g];rfl
theorem EC:∀(l) p,p∈cn 10 l->(10:UInt8)∉p
 |[],p,h=>by simp [cn] at h;subst h;simp
 |x::l,p,h=>by
  have g:=EC l;rw[js] at h;split at h
  .rcases VL.1 h with rfl|h
   .simp
   .exact g p h
  .next hx=>
   cases hc:cn 10 l with
   |nil=>exact absurd hc (nX 10 l)
   |cons a t=>
    rw[hc] at h g;rcases VL.1 h with rfl|h
    .intro h2;rcases VL.1 h2 with h2|h2
     .exact hx h2.symm
     .exact g a s_ h2
    .exact g p (by simp [h])
theorem xN:∀(K) m,(∀p∈K,(10:UInt8)∉p)->cn 10 (gR K++m)=K++cn 10 m
 |[],m,_=>rfl
 |l::K,m,h=>by
  show cn 10 (l++[10]++gR K++m)=_;rw[VX,VX,List.singleton_append,tT 10 l _ (h l s_),xN K m λp G=>h p (by simp [G])];rfl
def kJ(p:Nat->Bool):Nat->List (List UInt8)->List (List UInt8)
 |_,[]=>[]
 |n,l::t=>if p n then kJ p (n+1) t else l::kJ p (n+1) t
theorem Cf(p:Nat->Bool):∀(l) n,(10:UInt8)∉l->e_ p n l=if p n then [] else l
 |[],n,_=>by rw[e_];split<;>rfl
 |x::l,n,h=>by
  have h1:¬x=10:=λe=>h (by simp [e]);rw[e_,Vm h1,Cf p l n λe=>h (by simp [e])];split<;>rfl
theorem B5(p:Nat->Bool):∀(K) n,(∀q∈K,(10:UInt8)∉q)->e_ p n (gR K)=gR (kJ p n K)
 |[],n,_=>rfl
 |l::K,n,h=>by
  have hl:=h l s_;show e_ p n (l++[10]++gR K)=_;rw[tM,tM,Cf p l n hl,List.count_append,List.count_eq_zero_of_not_mem hl,show n+(0+List.count 10 [(10:UInt8)])=n+1 by simp,B5 p K _ λq hq=>h q (by simp [hq]),kJ];simp only[e_,Nat.add_zero,V5];split
  .rfl
  .show _=l++[10]++gR _;rfl
theorem xW(p:Nat->Bool):∀(K) n q,q∈kJ p n K->q∈K
 |l::K,n,q,h=>by
  rw[kJ] at h;split at h
  .exact Xd _ (xW p K _ q h)
  .rcases VL.1 h with rfl|h
   .simp
   .exact Xd _ (xW p K _ q h)
def PN{K}(h:∀q∈K,(10:UInt8)∉q):(cn 10 (gR K)).dropLast=K:=by
 have e:=xN K [] h;rw[V5] at e;rw[e];simp [cn]
def PF{K}(h:K≠[]):∃t,gR K=t++[10]:=by
 induction K with
 |nil=>exact absurd rfl h
 |cons l t g=>
  by_cases ht:t=[]
  .subst ht;exact⟨l,by simp [gR]⟩
  .have⟨u,hu⟩:=g ht;exact⟨l++[10]++u,by show l++[10]++gR t=_;rw[hu];simp⟩
end
def fb:Nat->Int->Int->Int
 |0,_,_=>0
 |f+1,a,p=>if a % p=0 then 1+fb f (a / p) p else 0
def val(a p:Int):Int:=fb a.natAbs a p
def P4{a p:Int}(ha:a≠0)(G:2<=p)(h:a % p=0):a.tmod p=0/\a.tdiv p=a / p/\a / p≠0/\(a / p).natAbs<a.natAbs:=by
 have hd:=VT h;obtain⟨c,rfl⟩:=hd;have hc:c≠0:=by rintro rfl;simp at ha
 have e:p*c / p=c:=Wk c o_;refine⟨Int.mul_tmod_right p c,?_,by rw[e];exact hc,?_⟩
 .rw[e,Yb c o_]
 .rw[e,V_];have h1:2<=p.natAbs:=o_;have h2:1<=c.natAbs:=o_;have:=WE c.natAbs h1;omega
def Tw{a p:Int}(h:a % p≠0):a.tmod p≠0:=λe=>h (Ws (Yj e))
theorem nH:∀(f) (a p),0<=fb f a p
 |0,_,_=>by simp [fb]
 |f+1,a,p=>by
  unfold fb;split
  .have:=nH f (a / p) p;omega
  .omega
def yy(f){a p}(h:a % p=0):fb (f+1) a p=1+fb f (a / p) p:=by simp [fb,h]
def uw(f){a p}(h:a % p≠0):fb f a p=0:=by cases f<;>simp [fb,h]
def jw:Nat->Int->Int->Int
 |0,n,_=>n
 |f+1,n,q=>if n % q=0 then jw f (n / q) q else n
def ds(n q:Int):Int:=jw n.toNat n q
def xD(f){n q}(h:n % q=0):jw (f+1) n q=jw f (n / q) q:=by simp [jw,h]
def qL(f){n q}(h:n % q≠0):jw f n q=n:=by cases f<;>simp [jw,h]
def Bu{n q:Int}(hn:1<=n)(hq:2<=q)(h:n % q=0):1<=n / q/\n / q<n:=by
 obtain⟨c,rfl⟩:=VT h;have e:q*c / q=c:=Wk c o_;have hc:1<=c:=by
  rcases VJ c 1 with J|J
  .exfalso;have:=VW (show c<=0 by omega) (show 0<=q by omega);simp at this;omega
  .exact J
 rw[e];refine⟨hc,?_⟩;have:=Wl hq (show 0<=c by omega);omega
def qH{n}(hn:2<=n):ds n n=1:=by
 unfold ds;obtain⟨k,hk⟩:∃k,n.toNat=k+1:=⟨n.toNat - 1,o_⟩
 rw[hk,xD _ (Int.emod_self),Int.ediv_self o_,qL _ (by rw[Xx o_ o_];omega)]
def fG:Nat->Int->Int->List Int
 |0,_,_=>[]
 |f+1,n,p=>if 1<n then (if n<p*p then [n] else (if n % p=0 then p::fG f (ds n p) (p+1) else fG f n (p+1))) else []
def gP(n:Int):List Int:=fG (2*n.toNat) n 2
def dI(n p:Int):Nat:=if 1<n then (n+n - p).toNat+1 else 0
def BU(f){n p}(h:n<=1):fG f n p=[]:=by cases f<;>simp [fG];intro J;omega
def Oy(f){n p}(h:1<n)(h1:n<p*p):fG (f+1) n p=[n]:=by simp [fG,h,h1]
def Oh(f){n p}(h:1<n)(h1:¬n<p*p)(h2:n % p=0):fG (f+1) n p=p::fG f (ds n p) (p+1):=by simp [fG,h,h1,h2]
def OY(f){n p}(h:1<n)(h1:¬n<p*p)(h2:n % p≠0):fG (f+1) n p=fG f n (p+1):=by simp [fG,h,h1,h2]
def EN{n p:Int}(G:2<=p)(h:¬n<p*p)(hn:n<=10000000000):p<=100000/\p<=n:=by
 constructor
 .rcases VJ 100000 p with J|J
  .exfalso;have:=Vs (show (100001:Int)<=p by omega) (show (100001:Int)<=p by omega) o_ o_;omega
  .exact J
 .have:=Wl (show (1:Int)<=p by omega) (show 0<=p by omega);omega
def jE(n:Int)(l:List Int)(o:Int):Int:=l.foldl (λo p=>if val n p % 2=1 then o*p else o) o
def td(n:Int):Int:=jE n (gP n.natAbs) (if n<0 then -1 else 1)
def UO(d:Int):Prop:=∀k:Int,2<=k->k*k<=d.natAbs->d % (k*k)≠0
open Classical in
noncomputable def qi(d:Int):Bool:=decide (UO d)
def t_{d k:Int}(h:2<=k)(h1:k*k<=d.natAbs)(h2:d % (k*k)=0):qi d=false:=by
 unfold qi;simp;intro hf;exact hf k h h1 h2
def sE(d:Int):Bool:=(d % 4 != 0||d.natAbs<4)&&(d % 9 != 0||d.natAbs<9)&&(d % 16 != 0||d.natAbs<16)&&(d % 25 != 0||d.natAbs<25)
def OI{d}(h:-31<=d)(h1:d<=31):qi d=sE d:=by
 cases hf:sE d
 .unfold sE at hf;simp only[Bool.and_eq_false_iff,Bool.or_eq_false_iff,bne_eq_false_iff_eq,Ze] at hf;rcases hf with ((h2|h2)|h2)|h2
  .exact t_ (k:=2) o_ o_ h2.1
  .exact t_ (k:=3) o_ o_ h2.1
  .exact t_ (k:=4) o_ o_ h2.1
  .exact t_ (k:=5) o_ o_ h2.1
 .unfold sE at hf;simp at hf;unfold qi;simp;intro k hk g;have:k<6:=by
   rcases VJ k 6 with J|J
   .exact J
   .exfalso;have:=Vs J J o_ o_;omega
  rcases (by omega:k=2\/k=3\/k=4\/k=5) with rfl|rfl|rfl|rfl<;>simp at g ⊢<;>omega
def Qb:∀k:Nat,k<63->((k:Int) - 31=0\/(td ((k) - 31)==(k) - 31)=sE ((k) - 31)):=by decide+kernel
def Fl{d}(h0:d≠0)(h:-31<=d)(h1:d<=31):(td d==d)=qi d:=by
 rw[OI h h1];have:=Qb (d+31).toNat o_;have e:((d+31).toNat:Int) - 31=d:=o_;rw[e] at this;rcases this with J|J
 .exact absurd J h0
 .exact J
def mN(n:Int):Int:=if n<0 then -1 else 1
def Fe(n:Int):Bool:=decide ((gP n.natAbs).length<=5)&&(gP n.natAbs).all (λp=>decide (2<=p)&&decide (p<=31))&&(List.range 6).all λi=>decide (-31<=jE n ((gP n.natAbs).take i) (mN n))&&decide (jE n ((gP n.natAbs).take i) (mN n)<=31)
def Rs:∀k:Nat,k<63->Fe ((k) - 31)=true:=by decide+kernel
def OF{n}(h:-31<=n)(h1:n<=31):(gP n.natAbs).length<=5/\(∀i,i<(gP n.natAbs).length->2<=(gP n.natAbs)[i]?.getD 0/\(gP n.natAbs)[i]?.getD 0<=31)/\
 (∀i,i<=(gP n.natAbs).length->-31<=jE n ((gP n.natAbs).take i) (mN n)/\jE n ((gP n.natAbs).take i) (mN n)<=31):=by
 have:=Rs (n+31).toNat o_;have e:((n+31).toNat:Int) - 31=n:=o_;rw[e] at this;unfold Fe at this;simp only[VB,VV,V2] at this;have⟨⟨h2,h3⟩,h4⟩:=this;refine⟨h2,λi hi=>?_,λi hi=>?_⟩
 .rw[Vv hi];exact h3 _ (VC hi)
 .exact h4 i u_
def QE{n}(l:List Int)(o){i}(h:i<l.length):jE n (l.take (i+1)) o=if val n (l[i]?.getD 0) % 2=1 then jE n (l.take i) o*(l[i]?.getD 0) else jE n (l.take i) o:=by
 unfold jE;rw[YZ,Vv h,XL];simp
def sK(h:P:=by
 go_ret;exact⟨rfl,Vn _ _⟩):=h
def sj(h:P:=by
 go_ret2;refine⟨rfl,?_⟩;exact z_):=h
def oF:Nat->Int->Int->Int
 |0,n,_=>n
 |k+1,n,q=>oF k (n / q) q
theorem yF:∀(f) (a p),fb f a p<=f
 |0,_,_=>by simp [fb]
 |f+1,a,p=>by
  unfold fb;split
  .have:=yF f (a / p) p;omega
  .omega
theorem Df:∀(f) (n q),oF (fb f n q).toNat n q=jw f n q
 |0,n,q=>by simp [fb,oF,jw]
 |f+1,n,q=>by
  unfold fb jw;split
  .have h:=nH f (n / q) q;rw[show (1+fb f (n / q) q).toNat=(fb f (n / q) q).toNat+1 by omega];exact Df f (n / q) q
  .simp [oF]
def Cq{n q}(hn:0<=n):oF (val n q).toNat n q=ds n q:=by
 unfold val ds;rw[show n.natAbs=n.toNat by omega];exact Df _ _ _
def E0{n q}(hn:1<=n)(h:n % q=0):1<=val n q:=by
 unfold val;obtain⟨k,hk⟩:∃k,n.natAbs=k+1:=⟨n.natAbs - 1,o_⟩
 rw[hk,yy _ h];have:=nH k (n / q) q;omega
def RQ{n q}(h:n % q≠0):val n q=0:=uw _ h
def gi:Nat->Int->Int->List (Int×Int)
 |0,_,_=>[]
 |f+1,n,p=>if 1<n then (if n<p*p then [(n,val n n)] else (if n % p=0 then (p,val n p)::gi f (ds n p) (p+1) else gi f n (p+1))) else []
def gh(n:Int):List (Int×Int):=gi (2*n.toNat) n 2
def CJ(f){n p}(h:n<=1):gi f n p=[]:=by cases f<;>simp [gi];intro J;omega
def Qw(f){n p}(h:1<n)(h1:n<p*p):gi (f+1) n p=[(n,val n n)]:=by simp [gi,h,h1]
def PB(f){n p}(h:1<n)(h1:¬n<p*p)(h2:n % p=0):gi (f+1) n p=(p,val n p)::gi f (ds n p) (p+1):=by simp [gi,h,h1,h2]
def QO(f){n p}(h:1<n)(h1:¬n<p*p)(h2:n % p≠0):gi (f+1) n p=gi f n (p+1):=by simp [gi,h,h1,h2]
def ja(l:List (Int×Int))(o:Int):Int:=l.foldl (λo f=>if f.2 % 2=1 then o*f.1 else o) o
def Qi(l:List (Int×Int))(o){i}(h:i<l.length):ja (l.take (i+1)) o=if (l[i].2) % 2=1 then ja (l.take i) o*l[i].1 else ja (l.take i) o:=by
 unfold ja;rw[YZ,Vv h,XL];simp
def th(n:Int):Int:=ja (gh n.natAbs) (if 0<n then 1 else if n<0 then -1 else 0)
def IY(n:Int):Bool:=decide ((gh n.natAbs).length<=5)&&(gh n.natAbs).all (λp=>decide (2<=p.1)&&decide (p.1<=31)&&decide (1<=p.2)&&decide (p.2<=31))&&(List.range 6).all λi=>decide (-31<=ja ((gh n.natAbs).take i) (if 0<n then 1 else if n<0 then -1 else 0))&&decide (ja ((gh n.natAbs).take i) (if 0<n then 1 else if n<0 then -1 else 0)<=31)
def Tx:∀k:Nat,k<63->IY ((k) - 31)=true:=by decide+kernel
def Qv{n}(h:-31<=n)(h1:n<=31):(gh n.natAbs).length<=5/\(∀i (hi:i<(gh n.natAbs).length),(2<=(gh n.natAbs)[i].1/\(gh n.natAbs)[i].1<=31)/\1<=(gh n.natAbs)[i].2/\(gh n.natAbs)[i].2<=31)/\
 (∀i,i<=(gh n.natAbs).length->-31<=ja ((gh n.natAbs).take i) (if 0<n then 1 else if n<0 then -1 else 0)/\ja ((gh n.natAbs).take i) (if 0<n then 1 else if n<0 then -1 else 0)<=31):=by
 have:=Tx (n+31).toNat o_;have e:((n+31).toNat:Int) - 31=n:=o_;rw[e] at this;unfold IY at this;simp only[VB,VV,V2] at this;have⟨⟨h2,h3⟩,h4⟩:=this;refine⟨h2,λi hi=>?_,λi hi=>h4 i u_⟩;have:=h3 _ (VC hi);exact⟨this.1.1,this.1.2,this.2⟩
def Ts:∀k:Nat,k<63->(th ((k) - 31)=td ((k) - 31)\/(k:Int) - 31=0):=by decide+kernel
def Ux{n}(h0:n≠0)(h:-31<=n)(h1:n<=31):th n=td n:=by
 have:=Ts (n+31).toNat o_;have e:((n+31).toNat:Int) - 31=n:=o_;rw[e] at this;omega
def ID(h:P:=by
 go_wp2_with ((go_at_call 63;refine aA (dh _ _ _ _) ?_))
 exact sK):=h
def sI(h:P:=by
 exact sj):=h
section
def Sz(n:Nat)(x:Int):Prop:=x.natAbs<10000 ^ n
def Sz.mono{m n}{x}(h:Sz m x)(hn:m<=n):Sz n x:=Vp h (WD o_ hn)
def Sz.mul{m n}{x y}(h:Sz m x)(k:Sz n y):Sz (m+n) (x*y):=by
 unfold Sz at *;rw[V_,YM];exact Nat.mul_lt_mul'' h k
def Sz.add{n}{x y}(h:Sz n x)(k:Sz n y):Sz (n+1) (x+y):=by
 unfold Sz at *;rw[X5];generalize 10000 ^ n=P at *;omega
def Sz.neg{n}{x}(h:Sz n x):Sz n (-x):=by
 unfold Sz at *;omega
def Sz.sub{n}{x y}(h:Sz n x)(k:Sz n y):Sz (n+1) (x - y):=YO▸h.add k.neg
def Sz.len{n}{x}(h:Sz n x):(dg x.natAbs).length<=n:=ft h
def Sz.of1{x}(h:-10000<x)(k:x<10000):Sz 1 x:=by
 show x.natAbs<10000 ^ 1;omega
def Sz.of4{x}(h:-10000000000000000<x)(k:x<10000000000000000):Sz 4 x:=by
 show x.natAbs<10000 ^ 4;omega
end
end Go.Proofs.YtaamhakdhaolmaaGreatDoor
