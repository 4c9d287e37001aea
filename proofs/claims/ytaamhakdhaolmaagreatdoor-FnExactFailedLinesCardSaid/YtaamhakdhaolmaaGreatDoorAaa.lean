/- Part 0. -/
import Derived.WalkKit
namespace Go.Proofs.YtaamhakdhaolmaaGreatDoor
open Go.RowKit
set_option maxHeartbeats 8000000
set_option maxRecDepth 100000
variable {P:Prop}
set_option linter.all false
abbrev ac:=false
abbrev ae:=true
def Ug:=@Nat.le_refl
def Uh:=@bodyPost_ret
def Ui:=@Nat.le_trans
def Uj:=@if_neg
def Uk:=@Below.refl
def Ul:=@Nat.lt_of_succ_le
def Um:=@if_pos
def Un:=@Nat.lt_of_lt_of_le
def Uo:=@Nat.le_of_lt
def Up:=@run_string_add_sum
def Uq:=@World.size_alloc
def Ur:=@Int.mul_le_mul
def Us:=@List.getElem?_eq_getElem
def Ut:=@List.forall_mem_cons
def Uu:=@ByteArray.size_append
def Uv:=@Array.getElem?_eq_some_iff
def Uw:=@List.length_cons
def Ux:=@Bool.and_eq_true
def Uy:=@ByteArray.toList_eq
def Uz:=@beq_eq_false_iff_ne
def UA:=@List.getElem_mem
def UB:=@Nat.zero_le
def UC:=@Array.length_toList
def UD:=@List.mem_singleton
def UE:=@List.length_append
def UF:=@Int.lt_or_le
def UG:=@Int.mul_pos
def UH:=@List.length_take
def UI:=@List.drop_succ_cons
def UJ:=@Int.mul_nonneg
def UK:=@List.setIfInBounds_toArray
def UL:=@List.take_succ_eq_append_getElem
def UM:=@List.mem_cons
def UN:=@Int.pow_succ
def UO:=@Int.emod_lt_of_pos
def UP:=@List.take_of_length_le
def UQ:=@Int.dvd_of_emod_eq_zero
def UR:=@List.getElem?_take_of_lt
def US:=@List.all_eq_true
def UT:=@Int.mul_le_mul_of_nonneg_left
def UU:=@Int.emod_nonneg
def UV:=@List.set_cons_zero
def UW:=@decide_eq_true_eq
def UX:=@List.length_eq_zero_iff
def UY:=@List.getElem?_cons_succ
def UZ:=@List.getElem?_cons_zero
def U0:=@List.drop_zero
def U1:=@List.set_cons_succ
def U2:=@List.getElem?_eq_some_iff
def U3:=@List.getElem?_toArray
def U4:=@Array.getD_eq_getD_getElem?
def U5:=@List.append_assoc
def U6:=@Int.neg_mul_neg
def U7:=@Nat.zero_add
def U8:=@Int.natAbs_mul
def U9:=@World.ownsRow.lt
def U_:=@Int.le_of_lt
def Va:=@Int.mul_assoc
def Vb:=@decide_eq_false
def Vc:=@List.length_nil
def Vd:=@IntWalk.i64_in
def Ve:=@List.take_length
def Vf:=@Int.gcd_dvd_right
def Vg:=@Int.mul_ediv_cancel_left
def Vh:=@Int.mul_le_mul_of_nonneg_right
def Vi:=@List.length_pos_iff
def Vj:=@Int.mul_add
def Vk:=@List.getElem?_append_right
def Vl:=@Int.emod_eq_zero_of_dvd
def Vm:=@Int.mul_comm
def Vn:=@Nat.lt_or_ge
def Vo:=@if_true
def Vp:=@List.take_append_of_le_length
def Vq:=@List.drop_eq_getElem_cons
def Vr:=@List.append_nil
def Vs:=@List.length_drop
def Vt:=@Int.gcd_dvd_left
def Vu:=@Int.eq_ofNat_of_zero_le
def Vv:=@Int.tmod_eq_emod_of_nonneg
def Vw:=@Nat.pow_le_pow_right
def Vx:=@List.mem_append
def Vy:=@Nat.mul_le_mul_right
def Vz:=@Option.some.injEq
def VA:=@List.nil_append
def VB:=@Int.mul_ne_zero
def VC:=@beq_iff_eq
def VD:=@cond_false
def VE:=@info_parts
def VF:=@List.map_cons
def VG:=@Int.add_zero
def VH:=@Int.mul_eq_zero
def VI:=@List.getElem?_append_left
def VJ:=@Array.getElem?_toList
def VK:=@cond_true
def VL:=@Int.emod_emod_of_dvd
def VM:=@Option.some.inj
def VN:=@List.map_append
def VO:=@List.cons.inj
def VP:=@Int.tdiv_eq_ediv_of_nonneg
def VQ:=@Int.ediv_le_self
def VR:=@List.getElem?_drop
def VS:=@List.getElem?_eq_none
def VT:=@List.mem_of_find?_eq_some
def VU:=@List.mem_of_mem_take
def VV:=@Option.isSome_iff_exists
def VW:=@List.mem_of_mem_drop
def VX:=@Int.mul_emod
def VY:=@Int.ediv_nonneg
def VZ:=@Int.mul_left_comm
def V0:=@Bool.not_eq_true'
def V1:=@Int.dvd_mul_of_dvd_left
def V2:=@decide_eq_true
def V3:=@List.cons_append
def V4:=@List.mem_range
def V5:=@Nat.mul_le_mul
def V6:=@Bool.false_eq_true
def V7:=@Nat.sub_self
def V8:=@List.pairwise_cons
def V9:=@Bool.or_eq_true
def V_:=@List.getD_eq_getElem?_getD
def Wa:=@List.isSuffixOf_iff_suffix
def Wb:=@Nat.add_assoc
def Wc:=@Int.emod_eq_of_lt
def Wd:=@Int.mul_neg_of_pos_of_neg
def We:=@Int.eq_of_mul_eq_mul_left
def Wf:=@Int.one_mul
def Wg:=@Nat.add_comm
def Wi:=@Nat.shiftLeft_eq
def Wj:=@Go.IntWalk.i64_left
def Wk:=@World.ownsRow.alloc
def Wl:=@Bool.true_and
def Wm:=@List.length_map
def Wn:=@UInt8.toNat_inj
def Wo:=@Nat.two_pow_pos
def Wp:=@Bool.eq_iff_iff
def Wr:=@List.drop_of_length_le
def Ws:=@List.getElem_cons_zero
def Wu:=@Int.ediv_eq_zero_of_lt
def Wv:=@World.ownsRow_nil
def Ww:=@List.foldl_append
def Wx:=@decide_false
def Wy:=@Bool.and_false
def WA:=@List.length_singleton
def WB:=@Int.emod_add_mul_ediv
def WC:=@Int.dvd_refl
def WD:=@Int.natAbs_dvd_natAbs
def WE:=@Int.add_mul_ediv_left
def WF:=@Nat.Coprime.mul_right
def WG:=@Option.getD_some
def WI:=@List.mem_cons_of_mem
def WJ:=@Int.mul_tdiv_cancel'
def WK:=@Int.ediv_pos_of_pos_of_dvd
def WL:=@Int.mul_neg
def WM:=@Nat.add_mul
def WN:=@List.take_succ_cons
def WO:=@List.toList_toArray
def WP:=@Nat.min_eq_left
def WQ:=@List.set_append
def WR:=@List.mem_or_eq_of_mem_set
def WS:=@List.find?_some
def WT:=@Classical.byContradiction
def WU:=@Array.getElem?_eq_getElem
def WV:=@Nat.pow_succ
def WW:=@List.map_nil
def WX:=@List.getElem?_take
def WY:=@List.mem_map
def WZ:=@List.find?_eq_none
def W_:=@Int.mul_zero
def Xa:=@Int.mul_tdiv_cancel_left
def Xb:=@Act.put_comm
def Xc:=@Int.pow_zero
def Xd:=@Nat.lt_trans
def Xe:=@Int.ofNat_dvd_left
def Xf:=@Bool.false_and
def Xg:=@run_underlying
def Xh:=@List.getLast_eq_getElem
def Xi:=@Int.dvd_of_tmod_eq_zero
def Xj:=@Result.andThen_ok
def Xk:=@List.size_toArray
def Xl:=@Value.slice.injEq
def Xm:=@Nat.gcd_dvd_right
def Xn:=@wpList_append_own
def Xo:=@of_decide_eq_true
def Xp:=@decide_true
def Xq:=@setRow_heap
def Xr:=@Array.getElem?_eq_none
def Xs:=@Int.le_of_dvd
def Xt:=@List.map_toArray
def Xu:=@Option.bind_some
def Xv:=@List.length_filter_le
def Xw:=@Int.mul_ediv_add_emod
def Xx:=@List.find?_cons
def Xy:=@Int.gcd_pos_iff
def Xz:=@Int.le_total
def XA:=@Int.tdiv_neg
def XB:=@Nat.mul_le_mul_left
def XC:=@List.replicate_succ
def XD:=@run_callFunc_extern
def XE:=@List.take_take
def XF:=@List.take_zero
def XG:=@Int.add_mul
def XH:=@wpStill_nil
def XI:=@Int.dvd_gcd
def XJ:=@Nat.pow_add
def XK:=@wpOp_mono
def XL:=@Int.sub_eq_add_neg
def XM:=@Below.heap_setCell
def XN:=@Nat.eq_or_lt_of_le
def XO:=@and_assoc
def XP:=@Nat.shiftLeft_zero
def XQ:=@Nat.add_sub_cancel
def XR:=@Addr.mk.injEq
def XS:=@Int.add_assoc
def XT:=@Int.toNat_natCast
def XU:=@Int.lt_trichotomy
def XV:=@List.getElem?_map
def XW:=@List.take_add_one
def XX:=@Int.not_lt
def XY:=@ready_mono
def XZ:=@dif_neg
def X0:=@wpList_plain
def X3:=@Sem.run_bind
def X4:=@Sem.run_pure
def X5:=@Nat.le_of_eq
def X6:=@List.drop_length
def X7:=@Nat.coprime_comm
def X8:=@Nat.gcd_dvd_left
def X9:=@Nat.mod_eq_of_lt
def X_:=@Below.heap_alloc
def Ya:=@decide_eq_false_iff_not
def Yb:=@Nat.div_lt_self
def Yc:=@Int.natCast_mul
def Yd:=@List.mem_filter
def Ye:=@List.nodup_cons
def Yf:=@mem_ready
def Yg:=@Int.natAbs_zero
def Yh:=@List.count_cons
def Yi:=@Int.natAbs_tdiv
def Yj:=@Int.natAbs_tmod
def Yk:=@List.range_succ
def Yl:=@Nat.div_le_self
def Ym:=@Nat.min_def
def Yn:=@Int.dvd_neg
def Yo:=@List.length_replicate
def Yp:=@List.contains_eq_mem
def Yq:=@ByteArray.ext
def Yr:=@Bool.toNat_le
def Ys:=@Int.zero_mul
def Yt:=@setRow_other
abbrev er:=Value->Int->Int->ByteArray->World->Prop
abbrev au:=World->Prop
abbrev bV:=List ByteArray
abbrev aj:=ByteArray
abbrev bT:=Option Addr
abbrev bj(x:Int):Prop:= -1000<=x/\x<=1000
abbrev a_(x:Int):Prop:= -10000<=x/\x<=10000
abbrev sn(x:Int):Prop:= -1000000000<=x/\x<=1000000000
abbrev iO(x:Int):Prop:= -4000000000000000000<=x/\x<=4000000000000000000
def aO(h:P:=by simp [intOf];omega):=h
def aA{D:World->Prop}:∀w:World,D w->True:=λ_ _=>trivial
def k_(h : P := by kernel_rfl) : P := h
def r_(h : P := by rfl) : P := h
def o_(h : P := by omega) : P := h
def h_{P : Prop}(h : P) : Hid P := h
def s_(h : P := by simp) : P := h
def u_(h : P := by simp; omega) : P := h
def d_(h : P := by decide) : P := h
def ao{P C : Prop}(c : C)(h : C -> P := by intro g; simp only [Act.put, UK, U1, UV]; exact g) : P := h c
def ai{P}{f:Nat}{a}{w}{E}{R:World->Prop}{Q:Ending->World->Prop}(h:Calls P f a w λe w'=>e=E/\R w')(k:∀w',R w'->Q E w'):Calls P f a w Q:=h.mono λ_ w' h=>h.1▸k w' h.2
def ay{P}{f:Nat}{a}{w}{E}{Q:Ending->World->Prop}(h:Calls P f a w λe w'=>e=E/\w=w')(k:Q E w):Calls P f a w Q:=h.mono λ_ w' h=>h.1▸h.2▸k
instance:Coe Int Value:=⟨.int .i64⟩
instance:Coe Nat Value:=⟨λn=>.int .i64 n⟩
instance:Coe Bool Value:=⟨.bool⟩
instance:Coe ByteArray Value:=⟨.string⟩
instance:Coe World Nat:=⟨λw=>w.heap.size⟩
instance:Coe Nat Addr:=⟨λr=>⟨r,0,none⟩⟩
instance:Coe Nat (Option Addr):=⟨λr=>some ⟨r,0,none⟩⟩
instance:Coe Unit Value:=⟨λ_=>.int .i64 0⟩
def z_(h : P := by (repeat' (first | (with_reducible exact Uk _ _) | (with_reducible refine af (by assumption) ?_ ?_) | (with_reducible refine Below.alloc ?_ ?_ _) | (with_reducible refine Below.setCell ?_ ?_ _) | (with_reducible refine lN ?_ _) | (with_reducible refine Below.drew ?_) | omega | (simp; omega) | (simp; done)))) : P := h
section
def Cg(p a b:Int):Prop:=a % p=b % p
def Cg.refl(p a):Cg p a a:=rfl
def Cg.trans{p a b c}(h:Cg p a b)(k:Cg p b c):Cg p a c:=Eq.trans h k
def Cg.add{p a b c d}(h:Cg p a b)(k:Cg p c d):Cg p (a+c) (b+d):=by
 unfold Cg at *;rw[Int.add_emod,h,k,<-Int.add_emod]
def Cg.mul{p a b c d}(h:Cg p a b)(k:Cg p c d):Cg p (a*c) (b*d):=by
 unfold Cg at *;rw[VX,h,k,<-VX]
def Cg.mod(p a):Cg p (a % p) a:=VL _ (WC p)
def Cg.mod'{p a b}(h:Cg p a b):Cg p (a % p) b:=(Cg.mod p a).trans h
end
def cU(b:UInt8):List UInt8->List (List UInt8)
 |[]=>[[]]
 |x::l=>if x=b then []::cU b l else match cU b l with
  |[]=>[[x]]
  |p::g=>(x::p)::g
def jm(p:List UInt8):List (List UInt8)->List (List UInt8)
 |[]=>[p]
 |q::g=>(p++q)::g
def ki(b x:UInt8)(l):cU b (x::l)=if x=b then []::cU b l else jm [x] (cU b l):=by
 rw[cU];split
 .rfl
 .cases cU b l<;>rfl
def O0(p q)(L:List (List UInt8)):jm p (jm q L)=jm (p++q) L:=by
 cases L<;>simp [jm]
def Dj:∀(L:List (List UInt8)),L≠[]->jm [] L=L
 |[],h=>absurd rfl h
 |_::_,_=>rfl
def tZ(b:UInt8)(l):cU b l≠[]:=by
 cases l with
 |nil=>simp [cU]
 |cons x l=>
  rw[ki];split
  .simp
  .cases cU b l<;>simp [jm]
theorem xt(b:UInt8):∀(p l),b∉p->cU b (p++b::l)=p::cU b l
 |[],l,_=>by rw[VA,ki,Um rfl]
 |x::p,l,h=>by
  have hx:x≠b:=λe=>h (by simp [e]);rw[V3,ki,Uj hx,xt b p l (λhm=>h (by simp [hm]))];rfl
theorem tK(b:UInt8):∀(p),b∉p->cU b p=[p]
 |[],_=>rfl
 |x::p,h=>by
  have hx:x≠b:=λe=>h (by simp [e]);rw[ki,Uj hx,tK b p (λhm=>h (by simp [hm]))];rfl
def av(n lo hi:Int):Bool:=decide (lo<=n)&&decide (n<=hi)
def DC{n lo hi}:av n lo hi=true↔lo<=n/\n<=hi:=by unfold av;simp
def bH{n lo hi}(h:av n lo hi=true):lo<=n/\n<=hi:=DC.1 h
def gc{n lo hi}(h:lo<=n)(J:n<=hi):av n lo hi=true:=DC.2 ⟨h,J⟩
def RS(a m:Int)(h:0<m):-m<a.tmod m/\a.tmod m<m:=by
 have h1:=UU a (show m≠0 by omega);have h2:=UO a h;rw[Int.tmod_eq_emod];split<;>omega
def Ct(a m)(h0:0<m)(h1:m<=4000000000000000000):(wrap64 (a.tmod m+m)).tmod m=a % m:=by
 have hb:=RS a m h0;rw[IntWalk.wrap64_in _ o_,Vv o_,Int.add_emod_right,Int.tmod_eq_emod];split
 .simp
 .have:m.natAbs=m:=by omega
  rw[this];simp [Int.sub_emod_right]
def dU(a n p:Int):Int:=(a ^ n.toNat) % p
def DL(a n p)(h:1<=p):0<=dU a n p/\dU a n p<p:=⟨UU _ o_,UO _ o_⟩
def qN(a p:Int)(k):(a % p) ^ k % p=a ^ k % p:=by
 induction k with
 |zero=>simp
 |succ k g=>rw[UN,UN,VX,g,VL _ (WC p),<-VX]
def Q5(b:Int)(n:Int)(h:0<n):b ^ n.toNat=(b*b) ^ (n / 2).toNat*(if n % 2=1 then b else 1):=by
 have e:n.toNat=2*(n / 2).toNat+(n % 2).toNat:=by omega
 have e2:(b*b) ^ (n / 2).toNat=b ^ (2*(n / 2).toNat):=by
  rw[Int.pow_mul];congr 1;rw[UN,UN];simp
 rw[e2];rcases Int.emod_two_eq n with h2|h2
 .rw[Uj o_,Int.mul_one];congr 1;omega
 .rw[Um h2,<-UN];congr 1;omega
def CG(o b n p:Int)(h:0<n):
 ((if n % 2=1 then o*b % p else o)*(b*b % p) ^ (n / 2).toNat) % p=(o*b ^ n.toNat) % p:=by
 rw[Q5 b n h];have e:∀x:Int,(x*(b*b % p) ^ (n / 2).toNat) % p=(x*(b*b) ^ (n / 2).toNat) % p:=λx=>by
  rw[VX,qN,<-VX]
 split
 .rw[e,VX,VL _ (WC p),<-VX];congr 1;rw[Va,Vm b]
 .rw[e,Int.mul_one]
def gh(a p:Int):Int:=dU a (p - 2) p
def AF(n p:Int):Int:=if n=p - 1 then -1 else n
def eO(a p:Int):Int:=AF (dU a ((p - 1) / 2) p) p
def gi(a p:Int):Int:=if dU a ((p - 1) / 2) p=0 then 0 else if dU a ((p - 1) / 2) p=1 then 1 else -1
def ry(n:Int):Prop:=∀d:Int,2<=d->d*d<=n->n % d≠0
open Classical in
noncomputable def cn(n:Int):Bool:=decide (2<=n/\ry n)
def wJ{n}(h:cn n=true):2<=n/\ry n:=by unfold cn at h;simpa using h
def CA{n}(h:2<=n)(J:ry n):cn n=true:=by unfold cn;simpa using ⟨h,J⟩
def O8{n d}(h:2<=d)(J:d*d<=n)(h2:n % d=0):cn n=false:=by
 unfold cn;simp;intro _ hn;exact absurd h2 (hn d h J)
def Pw{n}(h:n<2):cn n=false:=by
 unfold cn;simp;intro h2;omega
def CK{n d}(hd:2<=d)(h:∀c:Int,2<=c->c<d->n % c≠0)(bi:n<d*d):ry n:=by
 intro c hc F;by_cases g:c<d
 .exact h c hc g
 .exfalso;have:d*d<=c*c:=Ur o_ o_ o_ o_;omega
section
def dg(n:Nat):List Int:=if h:n=0 then [] else (n % 10000:Nat)::dg (n / 10000)
termination_by n
decreasing_by exact Yb o_ d_
def vl:List Int->Int
 |[]=>0
 |x::l=>x+10000*vl l
def Dg(l:List Int):Prop:=∀x∈l,0<=x/\x<=9999
def iB:dg 0=[]:=by rw[dg];simp
def uv{n}(h:n≠0):dg n=((n % 10000:Nat):Int)::dg (n / 10000):=by rw[dg];simp [h]
def Dg.tail{x}{l}(h:Dg (x::l)):Dg l:=λy hy=>h y (by simp [hy])
def Dg.head{x}{l}(h:Dg (x::l)):0<=x/\x<=9999:=h x s_
def Dg.take{l}(h:Dg l)(k):Dg (l.take k):=λy hy=>h y (VU hy)
theorem GX:∀{l},(∀x∈l,0<=x)->0<=vl l
 |[],_=>Int.le_refl _
 |x::l,h=>by
  have h1:=GX (l:=l) λy hy=>h y (by simp [hy]);have h2:=h x s_;unfold vl;omega
def Dg.nn{l}(h:Dg l):0<=vl l:=GX λx hx=>(h x hx).1
def Dg.lt:∀{l},Dg l->vl l<10000 ^ l.length
 |[],_=>by decide
 |x::l,h=>by
  have h1:=h.tail.lt;have h2:=h.head;have h3:(10000:Int) ^ (l.length+1)=10000 ^ l.length*10000:=UN _ _;rw[Uw,h3];unfold vl;omega
theorem ti:∀(l m),vl (l++m)=vl l+10000 ^ l.length*vl m
 |[],m=>by simp [vl]
 |x::l,m=>by
  have h3:(10000:Int) ^ (l.length+1)=10000 ^ l.length*10000:=UN _ _;rw[V3,vl,vl,(ti l m),Uw,h3,Vj,<-XS];congr 1;rw[Vm (10000 ^ l.length) 10000,Va]
theorem xM:∀k:Nat,vl (List.replicate k 0)=0
 |0=>rfl
 |k+1=>by rw[XC,vl,xM k];rfl
def MS{l:List Int}{k}(h:k<l.length):vl (l.take (k+1))=vl (l.take k)+10000 ^ k*l[k]:=by
 rw[UL h,ti,UH,WP o_];simp [vl]
def jV(l:List Int):Prop:=∀h:l≠[],l.getLast h≠0
def jV.tail{x}{l}(h:jV (x::l)):jV l:=λhl=>by
 have:=h s_;rwa [List.getLast_cons hl] at this
theorem yj:∀{l},Dg l->jV l->l≠[]->1<=vl l
 |[],_,_,h=>absurd rfl h
 |[x],hd,hl,_=>by
  have h1:=hl s_;have h2:=hd.head;simp at h1;show 1<=x+10000*0;omega
 |x::y::l,hd,hl,_=>by
  have h1:=yj hd.tail hl.tail s_;have h2:=hd.head;rw[vl];omega
theorem ED:∀{l},Dg l->jV l->l=dg (vl l).toNat
 |[],_,_=>by simp [vl,iB]
 |x::l,hd,hl=>by
  have h1:=yj hd hl s_;have h2:=hd.head;have h3:=hd.tail.nn;rw[uv o_];have e:vl (x::l)=x+10000*vl l:=rfl;have e1:(((vl (x::l)).toNat % 10000:Nat):Int)=x:=by rw[e];omega
  have e2:(vl (x::l)).toNat / 10000=(vl l).toNat:=by rw[e];omega
  rw[e1,e2,<-(ED hd.tail hl.tail)]
def jQ(n):Dg (dg n)/\jV (dg n)/\vl (dg n)=n:=by
 induction n using Nat.strongRecOn with
 |ind n g=>
  by_cases h:n=0
  .subst h;rw[iB];exact⟨λx hx=>by simp at hx,λh=>absurd rfl h,rfl⟩
  .rw[uv h];have⟨h1,h2,h3⟩:=g (n / 10000) (Yb o_ d_);refine⟨λx hx=>?_,λhne=>?_,?_⟩
   .rcases UM.1 hx with rfl|hx
    .omega
    .exact h1 x hx
   .by_cases hq:dg (n / 10000)=[]
    .have:n / 10000=0:=by
      rw[hq] at h3;simp only[vl] at h3;omega
     simp only[hq,List.getLast_singleton];omega
    .rw[List.getLast_cons hq];exact h2 hq
   .rw[vl,h3];omega
def tr(l:List Int):List Int:=(l.reverse.dropWhile (·==0)).reverse
def A9(l):tr (l++[0])=tr l:=by simp [tr]
def DY{x}(l)(h:x≠0):tr (l++[x])=l++[x]:=by simp [tr,h]
def Ea{l:List Int}{k}(h:k<l.length)(h0:l[k]=0):tr (l.take (k+1))=tr (l.take k):=by
 rw[UL h,h0,A9]
def DH{l:List Int}{k}(h:k<l.length)(h0:l[k]≠0):tr (l.take (k+1))=l.take (k+1):=by
 rw[UL h,DY _ h0]
def NZ{α:Type}(l:List α):l=[]\/∃m x,l=m++[x]:=by
 rcases List.eq_nil_or_concat l with h|⟨m,x,h⟩
 .exact .inl h
 .exact .inr ⟨m,x,by simpa using h⟩
theorem Df:∀(n) (l),l.length=n->Dg l->jV (tr l)/\Dg (tr l)/\vl (tr l)=vl l
 |0,l,hn,_=>by
  have:=UX.1 hn;subst this;exact⟨λh=>absurd rfl h,λx hx=>by simp [tr] at hx,rfl⟩
 |n+1,l,hn,hd=>by
  rcases NZ l with rfl|⟨m,x,rfl⟩
  .simp at hn
  .have hm:=by simpa using hn
   have H:Dg m:=λy hy=>hd y (by simp [hy]);by_cases hx:x=0
   .subst hx;rw[A9];have⟨h1,h2,h3⟩:=Df n m hm H;refine⟨h1,h2,?_⟩;rw[h3,ti];simp [vl]
   .rw[DY _ hx];exact⟨λh=>by simpa using hx,hd,rfl⟩
def rE{l}(h:Dg l):tr l=dg (vl l).toNat:=by
 have⟨h1,h2,h3⟩:=Df _ l rfl h;have:=ED h2 h1;rwa [h3] at this
def ui{n}:dg n=[]↔n=0:=by
 constructor
 .intro h;have:=(jQ n).2.2;rw[h] at this;simp only[vl] at this;omega
 .rintro rfl;exact iB
def ff{n k}(h:n<10000 ^ k):(dg n).length<=k:=by
 induction k generalizing n with
 |zero=>
  have:=by simpa using h
  subst this;simp [iB]
 |succ k g=>
  by_cases hn:n=0
  .subst hn;simp [iB]
  .rw[uv hn,Uw];have:=g (n:=n / 10000) (by
    rw[WV] at h;exact Nat.div_lt_of_lt_mul o_)
   omega
theorem Et:∀{l},Dg l->jV l->l≠[]->10000 ^ (l.length - 1)<=vl l
 |[],_,_,h=>absurd rfl h
 |[x],hd,hl,_=>by
  have:=yj hd hl s_;simpa using this
 |x::y::l,hd,hl,_=>by
  have h1:=Et hd.tail hl.tail s_;have h2:=hd.head;have e:(10000:Int) ^ ((x::y::l).length - 1)=10000 ^ ((y::l).length - 1)*10000:=by
   simp;exact UN _ _
  rw[e,vl];omega
end
def yO(p:Nat):Bool:=decide (2<=p)&&(List.range 32).all λd=>decide (d<2)||decide (p<d*d)||decide (p % d≠0)
def oO(p:Nat):Bool:=!yO p||decide (p<3)||(List.range p).all λa=>(a ^ ((p - 1) / 2)) % p==0||(a ^ ((p - 1) / 2)) % p==1||(a ^ ((p - 1) / 2)) % p==p - 1
def Ss:(List.range 400).all oO=true:=by decide+kernel
def R7:(List.range 250).all (λk=>oO (k+400))=true:=by decide+kernel
def RO:(List.range 200).all (λk=>oO (k+650))=true:=by decide+kernel
def Sj:(List.range 150).all (λk=>oO (k+850))=true:=by decide+kernel
def Pz(p:Nat)(h:p<1000):oO p=true:=by
 by_cases h0:p<400
 .exact US.1 Ss p (by simpa using h0)
 by_cases h1:p<650
 .have:=US.1 R7 (p - 400) u_;rwa [show p - 400+400=p by omega] at this
 by_cases h2:p<850
 .have:=US.1 RO (p - 650) u_;rwa [show p - 650+650=p by omega] at this
 .have:=US.1 Sj (p - 850) u_;rwa [show p - 850+850=p by omega] at this
def PM(p:Nat)(h:cn p=true)(hl:p<1000):yO p=true:=by
 obtain⟨h2,hn⟩:=wJ h;unfold yO;rw[Ux];refine⟨by simpa using (by omega:2<=p),?_⟩;rw[US];intro d hd;by_cases bo:d<2
 .simp [bo]
 by_cases bi:p<d*d
 .simp [bi]
 .have h1:=hn d o_ (by
   have:((d*d:Nat):Int)<=(p:Nat):=by omega
   simpa using this)
  have h3:p % d≠0:=λe=>h1 (by
   have:((p % d:Nat):Int)=0:=by omega
   simpa using this)
  simp [h3]
def TE(a p:Int)(h:cn p=true)(h3:3<=p)(h1:p<1000):
 dU a ((p - 1) / 2) p=0\/dU a ((p - 1) / 2) p=1\/dU a ((p - 1) / 2) p=p - 1:=by
 obtain⟨q,rfl⟩:=Vu (show 0<=p by omega);obtain⟨b,hb⟩:=Vu (UU a (show (q:Int)≠0 by omega));have aG:=UO a (show (0:Int)<q by omega);have G:=PM q h o_;have he:=Pz q o_;unfold oO at he;rw[G] at he;have g:¬q<3:=o_;simp only[g,Wx,Bool.not_true,Bool.false_or,Bool.or_false] at he;have U:=US.1 he b u_;have e:dU a (((q:Int) - 1) / 2) q=((b ^ ((q - 1) / 2) % q:Nat):Int):=by
  unfold dU;rw[<-qN,hb];have:(((q:Int) - 1) / 2).toNat=(q - 1) / 2:=by omega
  rw[this];simp
 rw[e];simp only[V9,VC] at U;omega
def um(a p:Int)(h:cn p=true)(h3:3<=p)(h1:p<1000):gi a p=eO a p:=by
 unfold gi eO AF;rcases TE a p h h3 h1 with e|e|e<;>rw[e]
 .rw[Um rfl,Uj o_]
 .rw[Uj o_,Um rfl,Uj o_]
 .rw[Uj o_,Uj o_,Um rfl]
def nY(h:P:=by
 go_wp2;go_ret;exact⟨rfl,af I J.size J⟩):=h
section
def Mm{p:Nat}(G:2<=p)(hd:ry (p)){a}(ha:¬p∣a):Nat.Coprime p a:=by
 have hg:=X8 p a;have bz:=Xm p a;have⟨k,hk⟩:=hg;generalize F:Nat.gcd p a=g at hk bz;show Nat.gcd p a=1;rw[F];by_cases h1:g=1
 .exact h1
 exfalso;have g0:g≠0:=by rintro rfl;omega
 have k0:k≠0:=by rintro rfl;omega
 by_cases ab:k=1
 .subst ab;rw[Nat.mul_one] at hk;exact ha (hk▸bz)
 rcases Nat.le_total g k with cm|cm
 .have h2:((g:Int)*g)<=p:=by
   have:=XB g cm;have:g*g<=p:=by omega
   exact_mod_cast this
  refine hd g o_ h2 ?_;have:p % g=0:=by rw[hk];exact Nat.mul_mod_right g k
  exact_mod_cast this
 .have h2:((k:Int)*k)<=p:=by
   have:=Vy k cm;have:k*k<=p:=by omega
   exact_mod_cast this
  refine hd k o_ h2 ?_;have:p % k=0:=by rw[hk];exact Nat.mul_mod_left g k
  exact_mod_cast this
end
def eN:Nat->Int->Int->Int
 |0,_,_=>0
 |f+1,a,p=>if a % p=0 then 1+eN f (a / p) p else 0
def val(a p:Int):Int:=eN a.natAbs a p
def Pb{a p:Int}(ha:a≠0)(G:2<=p)(h:a % p=0):a.tmod p=0/\a.tdiv p=a / p/\a / p≠0/\(a / p).natAbs<a.natAbs:=by
 have hd:=UQ h;obtain⟨c,rfl⟩:=hd;have hc:c≠0:=by rintro rfl;simp at ha
 have e:p*c / p=c:=Vg c o_;refine⟨Int.mul_tmod_right p c,?_,by rw[e];exact hc,?_⟩
 .rw[e,Xa c o_]
 .rw[e,U8];have h1:2<=p.natAbs:=o_;have h2:1<=c.natAbs:=o_;have:=Vy c.natAbs h1;omega
def SB{a p:Int}(h:a % p≠0):a.tmod p≠0:=λe=>h (Vl (Xi e))
theorem nr:∀(f) (a p),0<=eN f a p
 |0,_,_=>by simp [eN]
 |f+1,a,p=>by
  unfold eN;split
  .have:=nr f (a / p) p;omega
  .omega
def xW(f){a p}(h:a % p=0):eN (f+1) a p=1+eN f (a / p) p:=by simp [eN,h]
def tY(f){a p}(h:a % p≠0):eN f a p=0:=by cases f<;>simp [eN,h]
def ji:Nat->Int->Int->Int
 |0,n,_=>n
 |f+1,n,q=>if n % q=0 then ji f (n / q) q else n
def c_(n q:Int):Int:=ji n.toNat n q
def wZ(f){n q}(h:n % q=0):ji (f+1) n q=ji f (n / q) q:=by simp [ji,h]
def qt(f){n q}(h:n % q≠0):ji f n q=n:=by cases f<;>simp [ji,h]
def AX{n q:Int}(hn:1<=n)(hq:2<=q)(h:n % q=0):1<=n / q/\n / q<n:=by
 obtain⟨c,rfl⟩:=UQ h;have e:q*c / q=c:=Vg c o_;have hc:1<=c:=by
  rcases UF c 1 with J|J
  .exfalso;have:=UT (show c<=0 by omega) (show 0<=q by omega);simp at this;omega
  .exact J
 rw[e];refine⟨hc,?_⟩;have:=Vh hq (show 0<=c by omega);omega
def qp{n}(hn:2<=n):c_ n n=1:=by
 unfold c_;obtain⟨k,hk⟩:∃k,n.toNat=k+1:=⟨n.toNat - 1,by omega⟩
 rw[hk,wZ _ (Int.emod_self),Int.ediv_self o_,qt _ (by rw[Wc o_ o_];omega)]
def fu:Nat->Int->Int->List Int
 |0,_,_=>[]
 |f+1,n,p=>if 1<n then (if n<p*p then [n] else (if n % p=0 then p::fu f (c_ n p) (p+1) else fu f n (p+1))) else []
def gD(n:Int):List Int:=fu (2*n.toNat) n 2
def dv(n p:Int):Nat:=if 1<n then (n+n - p).toNat+1 else 0
def Bp(f){n p}(h:n<=1):fu f n p=[]:=by cases f<;>simp [fu];intro J;omega
def NG(f){n p}(h:1<n)(h1:n<p*p):fu (f+1) n p=[n]:=by simp [fu,h,h1]
def No(f){n p}(h:1<n)(h1:¬n<p*p)(h2:n % p=0):fu (f+1) n p=p::fu f (c_ n p) (p+1):=by simp [fu,h,h1,h2]
def Oc(f){n p}(h:1<n)(h1:¬n<p*p)(h2:n % p≠0):fu (f+1) n p=fu f n (p+1):=by simp [fu,h,h1,h2]
def D6{n p:Int}(G:2<=p)(h:¬n<p*p)(hn:n<=10000000000):p<=100000/\p<=n:=by
 constructor
 .rcases UF 100000 p with J|J
  .exfalso;have:=Ur (show (100001:Int)<=p by omega) (show (100001:Int)<=p by omega) o_ o_;omega
  .exact J
 .have:=Vh (show (1:Int)<=p by omega) (show 0<=p by omega);omega
def jo(n:Int)(l:List Int)(o:Int):Int:=l.foldl (λo p=>if val n p % 2=1 then o*p else o) o
def ss(n:Int):Int:=jo n (gD n.natAbs) (if n<0 then -1 else 1)
def TI(d:Int):Prop:=∀k:Int,2<=k->k*k<=d.natAbs->d % (k*k)≠0
open Classical in
noncomputable def pM(d:Int):Bool:=decide (TI d)
def tB{d k:Int}(h:2<=k)(h1:k*k<=d.natAbs)(h2:d % (k*k)=0):pM d=false:=by
 unfold pM;simp;intro hf;exact hf k h h1 h2
def rJ(d:Int):Bool:=(d % 4 != 0||d.natAbs<4)&&(d % 9 != 0||d.natAbs<9)&&(d % 16 != 0||d.natAbs<16)&&(d % 25 != 0||d.natAbs<25)
def NS{d}(h:-31<=d)(h1:d<=31):pM d=rJ d:=by
 cases hf:rJ d
 .unfold rJ at hf;simp only[Bool.and_eq_false_iff,Bool.or_eq_false_iff,bne_eq_false_iff_eq,Ya] at hf;rcases hf with ((h2|h2)|h2)|h2
  .exact tB (k:=2) o_ o_ h2.1
  .exact tB (k:=3) o_ o_ h2.1
  .exact tB (k:=4) o_ o_ h2.1
  .exact tB (k:=5) o_ o_ h2.1
 .unfold rJ at hf;simp at hf;unfold pM;simp;intro k hk g;have:k<6:=by
   rcases UF k 6 with J|J
   .exact J
   .exfalso;have:=Ur J J o_ o_;omega
  rcases (by omega:k=2\/k=3\/k=4\/k=5) with rfl|rfl|rfl|rfl<;>simp at g ⊢<;>omega
def Pj:∀k:Nat,k<63->((k:Int) - 31=0\/(ss ((k) - 31)==(k) - 31)=rJ ((k) - 31)):=by decide+kernel
def Ez{d}(h0:d≠0)(h:-31<=d)(h1:d<=31):(ss d==d)=pM d:=by
 rw[NS h h1];have:=Pj (d+31).toNat o_;have e:((d+31).toNat:Int) - 31=d:=o_;rw[e] at this;rcases this with J|J
 .exact absurd J h0
 .exact J
def mE(n:Int):Int:=if n<0 then -1 else 1
def Es(n:Int):Bool:=decide ((gD n.natAbs).length<=5)&&(gD n.natAbs).all (λp=>decide (2<=p)&&decide (p<=31))&&(List.range 6).all λi=>decide (-31<=jo n ((gD n.natAbs).take i) (mE n))&&decide (jo n ((gD n.natAbs).take i) (mE n)<=31)
def QE:∀k:Nat,k<63->Es ((k) - 31)=true:=by decide+kernel
def NP{n}(h:-31<=n)(h1:n<=31):(gD n.natAbs).length<=5/\(∀i,i<(gD n.natAbs).length->2<=(gD n.natAbs)[i]?.getD 0/\(gD n.natAbs)[i]?.getD 0<=31)/\
 (∀i,i<=(gD n.natAbs).length->-31<=jo n ((gD n.natAbs).take i) (mE n)/\jo n ((gD n.natAbs).take i) (mE n)<=31):=by
 have:=QE (n+31).toNat o_;have e:((n+31).toNat:Int) - 31=n:=o_;rw[e] at this;unfold Es at this;simp only[Ux,US,UW] at this;have⟨⟨h2,h3⟩,h4⟩:=this;refine⟨h2,λi hi=>?_,λi hi=>?_⟩
 .rw[Us hi];exact h3 _ (UA hi)
 .exact h4 i u_
def PR{n}(l:List Int)(o){i}(h:i<l.length):jo n (l.take (i+1)) o=if val n (l[i]?.getD 0) % 2=1 then jo n (l.take i) o*(l[i]?.getD 0) else jo n (l.take i) o:=by
 unfold jo;rw[XW,Us h,Ww];simp
def rW(h:P:=by
 go_ret;exact⟨rfl,Uk _ _⟩):=h
def rn(h:P:=by
 go_ret2;refine⟨rfl,?_⟩;exact z_):=h
def om:Nat->Int->Int->Int
 |0,n,_=>n
 |k+1,n,q=>om k (n / q) q
theorem yd:∀(f) (a p),eN f a p<=f
 |0,_,_=>by simp [eN]
 |f+1,a,p=>by
  unfold eN;split
  .have:=yd f (a / p) p;omega
  .omega
theorem CF:∀(f) (n q),om (eN f n q).toNat n q=ji f n q
 |0,n,q=>by simp [eN,om,ji]
 |f+1,n,q=>by
  unfold eN ji;split
  .have h:=nr f (n / q) q;rw[show (1+eN f (n / q) q).toNat=(eN f (n / q) q).toNat+1 by omega];exact CF f (n / q) q
  .simp [om]
def BS{n q}(hn:0<=n):om (val n q).toNat n q=c_ n q:=by
 unfold val c_;rw[show n.natAbs=n.toNat by omega];exact CF _ _ _
def Ei{n q}(hn:1<=n)(h:n % q=0):1<=val n q:=by
 unfold val;obtain⟨k,hk⟩:∃k,n.natAbs=k+1:=⟨n.natAbs - 1,by omega⟩
 rw[hk,xW _ h];have:=nr k (n / q) q;omega
def QX{n q}(h:n % q≠0):val n q=0:=tY _ h
def fU:Nat->Int->Int->List (Int×Int)
 |0,_,_=>[]
 |f+1,n,p=>if 1<n then (if n<p*p then [(n,val n n)] else (if n % p=0 then (p,val n p)::fU f (c_ n p) (p+1) else fU f n (p+1))) else []
def fT(n:Int):List (Int×Int):=fU (2*n.toNat) n 2
def Cc(f){n p}(h:n<=1):fU f n p=[]:=by cases f<;>simp [fU];intro J;omega
def PH(f){n p}(h:1<n)(h1:n<p*p):fU (f+1) n p=[(n,val n n)]:=by simp [fU,h,h1]
def OL(f){n p}(h:1<n)(h1:¬n<p*p)(h2:n % p=0):fU (f+1) n p=(p,val n p)::fU f (c_ n p) (p+1):=by simp [fU,h,h1,h2]
def P4(f){n p}(h:1<n)(h1:¬n<p*p)(h2:n % p≠0):fU (f+1) n p=fU f n (p+1):=by simp [fU,h,h1,h2]
def iP(l:List (Int×Int))(o:Int):Int:=l.foldl (λo f=>if f.2 % 2=1 then o*f.1 else o) o
def Pr(l:List (Int×Int))(o){i}(h:i<l.length):iP (l.take (i+1)) o=if (l[i].2) % 2=1 then iP (l.take i) o*l[i].1 else iP (l.take i) o:=by
 unfold iP;rw[XW,Us h,Ww];simp
def sD(n:Int):Int:=iP (fT n.natAbs) (if 0<n then 1 else if n<0 then -1 else 0)
def Ih(n:Int):Bool:=decide ((fT n.natAbs).length<=5)&&(fT n.natAbs).all (λp=>decide (2<=p.1)&&decide (p.1<=31)&&decide (1<=p.2)&&decide (p.2<=31))&&(List.range 6).all λi=>decide (-31<=iP ((fT n.natAbs).take i) (if 0<n then 1 else if n<0 then -1 else 0))&&decide (iP ((fT n.natAbs).take i) (if 0<n then 1 else if n<0 then -1 else 0)<=31)
def SC:∀k:Nat,k<63->Ih ((k) - 31)=true:=by decide+kernel
def PG{n}(h:-31<=n)(h1:n<=31):(fT n.natAbs).length<=5/\(∀i (hi:i<(fT n.natAbs).length),(2<=(fT n.natAbs)[i].1/\(fT n.natAbs)[i].1<=31)/\1<=(fT n.natAbs)[i].2/\(fT n.natAbs)[i].2<=31)/\
 (∀i,i<=(fT n.natAbs).length->-31<=iP ((fT n.natAbs).take i) (if 0<n then 1 else if n<0 then -1 else 0)/\iP ((fT n.natAbs).take i) (if 0<n then 1 else if n<0 then -1 else 0)<=31):=by
 have:=SC (n+31).toNat o_;have e:((n+31).toNat:Int) - 31=n:=o_;rw[e] at this;unfold Ih at this;simp only[Ux,US,UW] at this;have⟨⟨h2,h3⟩,h4⟩:=this;refine⟨h2,λi hi=>?_,λi hi=>h4 i u_⟩;have:=h3 _ (UA hi);exact⟨this.1.1,this.1.2,this.2⟩
def Sw:∀k:Nat,k<63->(sD ((k) - 31)=ss ((k) - 31)\/(k:Int) - 31=0):=by decide+kernel
def Tw{n}(h0:n≠0)(h:-31<=n)(h1:n<=31):sD n=ss n:=by
 have:=Sw (n+31).toNat o_;have e:((n+31).toNat:Int) - 31=n:=o_;rw[e] at this;omega
def Hq(h:P:=by
 go_wp2_with ((go_at_call 63;refine ay (cR _ _ _ _) ?_))
 exact rW):=h
def rL(h:P:=by
 exact rn):=h
section
def Sz(n:Nat)(x:Int):Prop:=x.natAbs<10000 ^ n
def Sz.mono{m n}{x}(h:Sz m x)(hn:m<=n):Sz n x:=Un h (Vw o_ hn)
def Sz.mul{m n}{x y}(h:Sz m x)(k:Sz n y):Sz (m+n) (x*y):=by
 unfold Sz at *;rw[U8,XJ];exact Nat.mul_lt_mul'' h k
def Sz.add{n}{x y}(h:Sz n x)(k:Sz n y):Sz (n+1) (x+y):=by
 unfold Sz at *;rw[WV];generalize 10000 ^ n=P at *;omega
def Sz.neg{n}{x}(h:Sz n x):Sz n (-x):=by
 unfold Sz at *;omega
def Sz.sub{n}{x y}(h:Sz n x)(k:Sz n y):Sz (n+1) (x - y):=XL▸h.add k.neg
def Sz.len{n}{x}(h:Sz n x):(dg x.natAbs).length<=n:=ff h
def Sz.of1{x}(h:-10000<x)(k:x<10000):Sz 1 x:=by
 show x.natAbs<10000 ^ 1;omega
def Sz.of4{x}(h:-10000000000000000<x)(k:x<10000000000000000):Sz 4 x:=by
 show x.natAbs<10000 ^ 4;omega
end
end Go.Proofs.YtaamhakdhaolmaaGreatDoor
