/- What the types of this program are. -/
import Derived.Test.YtknhemdpfdopaaaProg
import Derived.Test.YtknhemdpfdopaaaAm14
import Derived.KernelRfl
namespace Go.Proofs.Ytknhemdpfdopaaa.AmF
open Go.AM
theorem ti_Fnc498c1eb : tyI Try.prog 1 = some ⟨.func #[] #[] false, 1, 8, .nilFunc⟩ := tyI_of (by kernel_rfl) Try.underlying1
theorem ti_int64 : tyI Try.prog 2 = some ⟨.int .i64, 1, 8, .int .i64 0⟩ := tyI_of (by kernel_rfl) Try.underlying2
theorem ti_int : tyI Try.prog 3 = some ⟨.int .i64, 1, 8, .int .i64 0⟩ := tyI_of (by kernel_rfl) Try.underlying3
theorem ti_bool : tyI Try.prog 4 = some ⟨.bool, 1, 1, .bool false⟩ := tyI_of (by kernel_rfl) Try.underlying4
theorem ti_uint8 : tyI Try.prog 5 = some ⟨.int .u8, 1, 1, .int .u8 0⟩ := tyI_of (by kernel_rfl) Try.underlying5
theorem ti_internal_abi_BoundsErrorCode : tyI Try.prog 6 = some ⟨.int .u8, 1, 1, .int .u8 0⟩ := tyI_of (by kernel_rfl) Try.underlying6
theorem ti_S0b53c675 : tyI Try.prog 7 = some ⟨.struct #[⟨ "x", 2, 0, false, "", "runtime", 0⟩, ⟨ "y", 3, 1, false, "", "runtime", 8⟩, ⟨ "signed", 4, 2, false, "", "runtime", 16⟩, ⟨ "code", 6, 3, false, "", "runtime", 17⟩], 4, 24, .agg #[.int .i64 0, .int .i64 0, .bool false, .int .u8 0]⟩ := tyI_of (by kernel_rfl) Try.underlying7
theorem ti_runtime_boundsError : tyI Try.prog 8 = some ⟨.struct #[⟨ "x", 2, 0, false, "", "runtime", 0⟩, ⟨ "y", 3, 1, false, "", "runtime", 8⟩, ⟨ "signed", 4, 2, false, "", "runtime", 16⟩, ⟨ "code", 6, 3, false, "", "runtime", 17⟩], 4, 24, .agg #[.int .i64 0, .int .i64 0, .bool false, .int .u8 0]⟩ := tyI_of (by kernel_rfl) Try.underlying8
theorem ti_string : tyI Try.prog 9 = some ⟨.string, 1, 16, .string ⟨#[]⟩⟩ := tyI_of (by kernel_rfl) Try.underlying9
theorem ti_runtime_errorString : tyI Try.prog 10 = some ⟨.string, 1, 16, .string ⟨#[]⟩⟩ := tyI_of (by kernel_rfl) Try.underlying10
theorem ti_runtime_plainError : tyI Try.prog 11 = some ⟨.string, 1, 16, .string ⟨#[]⟩⟩ := tyI_of (by kernel_rfl) Try.underlying11
theorem ti_uintptr : tyI Try.prog 12 = some ⟨.int .u64, 1, 8, .int .u64 0⟩ := tyI_of (by kernel_rfl) Try.underlying12
theorem ti_S74433d11 : tyI Try.prog 13 = some ⟨.struct #[⟨ "msg", 9, 0, false, "", "runtime", 0⟩, ⟨ "addr", 12, 1, false, "", "runtime", 16⟩], 2, 24, .agg #[.string ⟨#[]⟩, .int .u64 0]⟩ := tyI_of (by kernel_rfl) Try.underlying13
theorem ti_runtime_errorAddressString : tyI Try.prog 14 = some ⟨.struct #[⟨ "msg", 9, 0, false, "", "runtime", 0⟩, ⟨ "addr", 12, 1, false, "", "runtime", 16⟩], 2, 24, .agg #[.string ⟨#[]⟩, .int .u64 0]⟩ := tyI_of (by kernel_rfl) Try.underlying14
theorem ti_Pruntime_TypeAssertionError : tyI Try.prog 15 = some ⟨.pointer 147, 1, 8, .pointer none⟩ := tyI_of (by kernel_rfl) Try.underlying15
theorem ti_Pruntime_PanicNilError : tyI Try.prog 16 = some ⟨.pointer 150, 1, 8, .pointer none⟩ := tyI_of (by kernel_rfl) Try.underlying16
theorem ti_Pinternal_abi_Type : tyI Try.prog 17 = some ⟨.pointer 159, 1, 8, .pointer none⟩ := tyI_of (by kernel_rfl) Try.underlying17
theorem ti_S12c68beb : tyI Try.prog 18 = some ⟨.struct #[⟨ "typ", 17, 0, false, "", "internal/runtime/maps", 0⟩], 1, 8, .agg #[.pointer none]⟩ := tyI_of (by kernel_rfl) Try.underlying18
theorem ti_internal_runtime_maps_unhashableTypeError : tyI Try.prog 19 = some ⟨.struct #[⟨ "typ", 17, 0, false, "", "internal/runtime/maps", 0⟩], 1, 8, .agg #[.pointer none]⟩ := tyI_of (by kernel_rfl) Try.underlying19
theorem ti_int32 : tyI Try.prog 21 = some ⟨.int .i32, 1, 4, .int .i32 0⟩ := tyI_of (by kernel_rfl) Try.underlying21
theorem ti_A64int : tyI Try.prog 22 = some ⟨.array 64 3, 64, 512, .agg #[.int .i64 0, .int .i64 0, .int .i64 0, .int .i64 0, .int .i64 0, .int .i64 0, .int .i64 0, .int .i64 0, .int .i64 0, .int .i64 0, .int .i64 0, .int .i64 0, .int .i64 0, .int .i64 0, .int .i64 0, .int .i64 0, .int .i64 0, .int .i64 0, .int .i64 0, .int .i64 0, .int .i64 0, .int .i64 0, .int .i64 0, .int .i64 0, .int .i64 0, .int .i64 0, .int .i64 0, .int .i64 0, .int .i64 0, .int .i64 0, .int .i64 0, .int .i64 0, .int .i64 0, .int .i64 0, .int .i64 0, .int .i64 0, .int .i64 0, .int .i64 0, .int .i64 0, .int .i64 0, .int .i64 0, .int .i64 0, .int .i64 0, .int .i64 0, .int .i64 0, .int .i64 0, .int .i64 0, .int .i64 0, .int .i64 0, .int .i64 0, .int .i64 0, .int .i64 0, .int .i64 0, .int .i64 0, .int .i64 0, .int .i64 0, .int .i64 0, .int .i64 0, .int .i64 0, .int .i64 0, .int .i64 0, .int .i64 0, .int .i64 0, .int .i64 0]⟩ := tyI_of (by kernel_rfl) Try.underlying22
theorem ti_Lint : tyI Try.prog 23 = some ⟨.slice 3, 1, 24, .slice none 0 0⟩ := tyI_of (by kernel_rfl) Try.underlying23
theorem ti_Fn8dec0830 : tyI Try.prog 24 = some ⟨.func #[] #[4] false, 1, 8, .nilFunc⟩ := tyI_of (by kernel_rfl) Try.underlying24
theorem ti_Fn403f9cc9 : tyI Try.prog 25 = some ⟨.func #[96, 23] #[23] false, 1, 8, .nilFunc⟩ := tyI_of (by kernel_rfl) Try.underlying25
theorem ti_Fn89cd6b92 : tyI Try.prog 26 = some ⟨.func #[22, 23] #[23] false, 1, 8, .nilFunc⟩ := tyI_of (by kernel_rfl) Try.underlying26
theorem ti_Fn9abd84f7 : tyI Try.prog 28 = some ⟨.func #[96, 23] #[3, 4] false, 1, 8, .nilFunc⟩ := tyI_of (by kernel_rfl) Try.underlying28
theorem ti_Fn7c63f8e1 : tyI Try.prog 29 = some ⟨.func #[22, 23] #[4] false, 1, 8, .nilFunc⟩ := tyI_of (by kernel_rfl) Try.underlying29
theorem ti_Luint8 : tyI Try.prog 30 = some ⟨.slice 5, 1, 24, .slice none 0 0⟩ := tyI_of (by kernel_rfl) Try.underlying30
theorem ti_int16 : tyI Try.prog 31 = some ⟨.int .i16, 1, 2, .int .i16 0⟩ := tyI_of (by kernel_rfl) Try.underlying31
theorem ti_Fnf5ec8fe6 : tyI Try.prog 32 = some ⟨.func #[33, 33] #[4] false, 1, 8, .nilFunc⟩ := tyI_of (by kernel_rfl) Try.underlying32
theorem ti_LLuint8 : tyI Try.prog 33 = some ⟨.slice 30, 1, 24, .slice none 0 0⟩ := tyI_of (by kernel_rfl) Try.underlying33
theorem ti_Fn643f42b7 : tyI Try.prog 34 = some ⟨.func #[30, 3] #[33] false, 1, 8, .nilFunc⟩ := tyI_of (by kernel_rfl) Try.underlying34
theorem ti_Fn1d9fdf49 : tyI Try.prog 35 = some ⟨.func #[30, 3] #[30] false, 1, 8, .nilFunc⟩ := tyI_of (by kernel_rfl) Try.underlying35
theorem ti_Fn49957351 : tyI Try.prog 36 = some ⟨.func #[30] #[4] false, 1, 8, .nilFunc⟩ := tyI_of (by kernel_rfl) Try.underlying36
theorem ti_Fn1edfd8c3 : tyI Try.prog 37 = some ⟨.func #[30, 3, 31] #[4] false, 1, 8, .nilFunc⟩ := tyI_of (by kernel_rfl) Try.underlying37
theorem ti_S6fcf4bae : tyI Try.prog 38 = some ⟨.struct #[⟨ "ID", 3, 0, false, "", "", 0⟩, ⟨ "Members", 3, 1, false, "", "", 8⟩, ⟨ "Unit", 3, 2, false, "", "", 16⟩, ⟨ "Block", 3, 3, false, "", "", 24⟩, ⟨ "Cap", 3, 4, false, "", "", 32⟩, ⟨ "Zones", 3, 5, false, "", "", 40⟩, ⟨ "Spare", 3, 6, false, "", "", 48⟩, ⟨ "Meta", 3, 7, false, "", "", 56⟩, ⟨ "Open", 3, 8, false, "", "", 64⟩, ⟨ "Active", 3, 9, false, "", "", 72⟩, ⟨ "Limit", 3, 10, false, "", "", 80⟩], 11, 88, .agg #[.int .i64 0, .int .i64 0, .int .i64 0, .int .i64 0, .int .i64 0, .int .i64 0, .int .i64 0, .int .i64 0, .int .i64 0, .int .i64 0, .int .i64 0]⟩ := tyI_of (by kernel_rfl) Try.underlying38
theorem ti_api_Conf : tyI Try.prog 39 = some ⟨.struct #[⟨ "ID", 3, 0, false, "", "", 0⟩, ⟨ "Members", 3, 1, false, "", "", 8⟩, ⟨ "Unit", 3, 2, false, "", "", 16⟩, ⟨ "Block", 3, 3, false, "", "", 24⟩, ⟨ "Cap", 3, 4, false, "", "", 32⟩, ⟨ "Zones", 3, 5, false, "", "", 40⟩, ⟨ "Spare", 3, 6, false, "", "", 48⟩, ⟨ "Meta", 3, 7, false, "", "", 56⟩, ⟨ "Open", 3, 8, false, "", "", 64⟩, ⟨ "Active", 3, 9, false, "", "", 72⟩, ⟨ "Limit", 3, 10, false, "", "", 80⟩], 11, 88, .agg #[.int .i64 0, .int .i64 0, .int .i64 0, .int .i64 0, .int .i64 0, .int .i64 0, .int .i64 0, .int .i64 0, .int .i64 0, .int .i64 0, .int .i64 0]⟩ := tyI_of (by kernel_rfl) Try.underlying39
theorem ti_Lapi_Cmd : tyI Try.prog 40 = some ⟨.slice 44, 1, 24, .slice none 0 0⟩ := tyI_of (by kernel_rfl) Try.underlying40
theorem ti_Fnddf994f0 : tyI Try.prog 41 = some ⟨.func #[39, 40] #[4] false, 1, 8, .nilFunc⟩ := tyI_of (by kernel_rfl) Try.underlying41
theorem ti_Fnbce354e7 : tyI Try.prog 42 = some ⟨.func #[39, 44, 44] #[4] false, 1, 8, .nilFunc⟩ := tyI_of (by kernel_rfl) Try.underlying42
theorem ti_S07f20b6f : tyI Try.prog 43 = some ⟨.struct #[⟨ "Kind", 3, 0, false, "", "", 0⟩, ⟨ "Zone", 3, 1, false, "", "", 8⟩, ⟨ "At", 3, 2, false, "", "", 16⟩, ⟨ "N", 3, 3, false, "", "", 24⟩, ⟨ "Data", 30, 4, false, "", "", 32⟩, ⟨ "Fua", 4, 5, false, "", "", 56⟩], 6, 64, .agg #[.int .i64 0, .int .i64 0, .int .i64 0, .int .i64 0, .slice none 0 0, .bool false]⟩ := tyI_of (by kernel_rfl) Try.underlying43
theorem ti_api_Cmd : tyI Try.prog 44 = some ⟨.struct #[⟨ "Kind", 3, 0, false, "", "", 0⟩, ⟨ "Zone", 3, 1, false, "", "", 8⟩, ⟨ "At", 3, 2, false, "", "", 16⟩, ⟨ "N", 3, 3, false, "", "", 24⟩, ⟨ "Data", 30, 4, false, "", "", 32⟩, ⟨ "Fua", 4, 5, false, "", "", 56⟩], 6, 64, .agg #[.int .i64 0, .int .i64 0, .int .i64 0, .int .i64 0, .slice none 0 0, .bool false]⟩ := tyI_of (by kernel_rfl) Try.underlying44
theorem ti_Fne233fc03 : tyI Try.prog 45 = some ⟨.func #[40, 40] #[4] false, 1, 8, .nilFunc⟩ := tyI_of (by kernel_rfl) Try.underlying45
theorem ti_Fn64a4c69c : tyI Try.prog 46 = some ⟨.func #[39, 40] #[40] false, 1, 8, .nilFunc⟩ := tyI_of (by kernel_rfl) Try.underlying46
theorem ti_Fn361c0348 : tyI Try.prog 47 = some ⟨.func #[39] #[3] false, 1, 8, .nilFunc⟩ := tyI_of (by kernel_rfl) Try.underlying47
theorem ti_Lapi_LZone : tyI Try.prog 48 = some ⟨.slice 56, 1, 24, .slice none 0 0⟩ := tyI_of (by kernel_rfl) Try.underlying48
theorem ti_Sdd22f2da : tyI Try.prog 49 = some ⟨.struct #[⟨ "C", 39, 0, false, "", "", 0⟩, ⟨ "L", 48, 11, false, "", "", 88⟩], 12, 112, .agg #[.int .i64 0, .int .i64 0, .int .i64 0, .int .i64 0, .int .i64 0, .int .i64 0, .int .i64 0, .int .i64 0, .int .i64 0, .int .i64 0, .int .i64 0, .slice none 0 0]⟩ := tyI_of (by kernel_rfl) Try.underlying49
theorem ti_revetmentref17_Table : tyI Try.prog 50 = some ⟨.struct #[⟨ "C", 39, 0, false, "", "", 0⟩, ⟨ "L", 48, 11, false, "", "", 88⟩], 12, 112, .agg #[.int .i64 0, .int .i64 0, .int .i64 0, .int .i64 0, .int .i64 0, .int .i64 0, .int .i64 0, .int .i64 0, .int .i64 0, .int .i64 0, .int .i64 0, .slice none 0 0]⟩ := tyI_of (by kernel_rfl) Try.underlying50
theorem ti_Lstring : tyI Try.prog 51 = some ⟨.slice 9, 1, 24, .slice none 0 0⟩ := tyI_of (by kernel_rfl) Try.underlying51
theorem ti_S84b6b81c : tyI Try.prog 52 = some ⟨.struct #[⟨ "T", 50, 0, false, "", "", 0⟩, ⟨ "Texts", 51, 12, false, "", "", 112⟩, ⟨ "Safe", 23, 13, false, "", "", 136⟩], 14, 160, .agg #[.int .i64 0, .int .i64 0, .int .i64 0, .int .i64 0, .int .i64 0, .int .i64 0, .int .i64 0, .int .i64 0, .int .i64 0, .int .i64 0, .int .i64 0, .slice none 0 0, .slice none 0 0, .slice none 0 0]⟩ := tyI_of (by kernel_rfl) Try.underlying52
theorem ti_revetmentref18_Model : tyI Try.prog 53 = some ⟨.struct #[⟨ "T", 50, 0, false, "", "", 0⟩, ⟨ "Texts", 51, 12, false, "", "", 112⟩, ⟨ "Safe", 23, 13, false, "", "", 136⟩], 14, 160, .agg #[.int .i64 0, .int .i64 0, .int .i64 0, .int .i64 0, .int .i64 0, .int .i64 0, .int .i64 0, .int .i64 0, .int .i64 0, .int .i64 0, .int .i64 0, .slice none 0 0, .slice none 0 0, .slice none 0 0]⟩ := tyI_of (by kernel_rfl) Try.underlying53
theorem ti_Fn5d1b724d : tyI Try.prog 54 = some ⟨.func #[39] #[53] false, 1, 8, .nilFunc⟩ := tyI_of (by kernel_rfl) Try.underlying54
theorem ti_S678c6fbf : tyI Try.prog 55 = some ⟨.struct #[⟨ "State", 3, 0, false, "", "", 0⟩, ⟨ "Wp", 3, 1, false, "", "", 8⟩, ⟨ "Gen", 3, 2, false, "", "", 16⟩], 3, 24, .agg #[.int .i64 0, .int .i64 0, .int .i64 0]⟩ := tyI_of (by kernel_rfl) Try.underlying55
theorem ti_api_LZone : tyI Try.prog 56 = some ⟨.struct #[⟨ "State", 3, 0, false, "", "", 0⟩, ⟨ "Wp", 3, 1, false, "", "", 8⟩, ⟨ "Gen", 3, 2, false, "", "", 16⟩], 3, 24, .agg #[.int .i64 0, .int .i64 0, .int .i64 0]⟩ := tyI_of (by kernel_rfl) Try.underlying56
theorem ti_Fn25dbf97b : tyI Try.prog 58 = some ⟨.func #[53, 44] #[53, 3, 9, 56] false, 1, 8, .nilFunc⟩ := tyI_of (by kernel_rfl) Try.underlying58
theorem ti_Lrevetmentlaw34_Act : tyI Try.prog 59 = some ⟨.slice 63, 1, 24, .slice none 0 0⟩ := tyI_of (by kernel_rfl) Try.underlying59
theorem ti_Pqueue_Queue_int_ : tyI Try.prog 60 = some ⟨.pointer 124, 1, 8, .pointer none⟩ := tyI_of (by kernel_rfl) Try.underlying60
theorem ti_Fn71868a58 : tyI Try.prog 61 = some ⟨.func #[3] #[60] false, 1, 8, .nilFunc⟩ := tyI_of (by kernel_rfl) Try.underlying61
theorem ti_Sb4593291 : tyI Try.prog 62 = some ⟨.struct #[⟨ "Push", 4, 0, false, "", "", 0⟩, ⟨ "N", 3, 1, false, "", "", 8⟩], 2, 16, .agg #[.bool false, .int .i64 0]⟩ := tyI_of (by kernel_rfl) Try.underlying62
theorem ti_revetmentlaw34_Act : tyI Try.prog 63 = some ⟨.struct #[⟨ "Push", 4, 0, false, "", "", 0⟩, ⟨ "N", 3, 1, false, "", "", 8⟩], 2, 16, .agg #[.bool false, .int .i64 0]⟩ := tyI_of (by kernel_rfl) Try.underlying63
theorem ti_Fn33c0d1e7 : tyI Try.prog 64 = some ⟨.func #[3] #[4] false, 1, 8, .nilFunc⟩ := tyI_of (by kernel_rfl) Try.underlying64
theorem ti_Fn66d27d11 : tyI Try.prog 65 = some ⟨.func #[] #[3, 4] false, 1, 8, .nilFunc⟩ := tyI_of (by kernel_rfl) Try.underlying65
theorem ti_Fn1dcaf449 : tyI Try.prog 66 = some ⟨.func #[] #[23] false, 1, 8, .nilFunc⟩ := tyI_of (by kernel_rfl) Try.underlying66
theorem ti_Fn21c690ce : tyI Try.prog 67 = some ⟨.func #[] #[3] false, 1, 8, .nilFunc⟩ := tyI_of (by kernel_rfl) Try.underlying67
theorem ti_Pqueue_Queue_string_ : tyI Try.prog 68 = some ⟨.pointer 127, 1, 8, .pointer none⟩ := tyI_of (by kernel_rfl) Try.underlying68
theorem ti_Fn69f0e1b7 : tyI Try.prog 70 = some ⟨.func #[] #[9, 4] false, 1, 8, .nilFunc⟩ := tyI_of (by kernel_rfl) Try.underlying70
theorem ti_Fnf1f0b6f7 : tyI Try.prog 71 = some ⟨.func #[9] #[4] false, 1, 8, .nilFunc⟩ := tyI_of (by kernel_rfl) Try.underlying71
theorem ti_Fnb8f0f961 : tyI Try.prog 72 = some ⟨.func #[] #[51] false, 1, 8, .nilFunc⟩ := tyI_of (by kernel_rfl) Try.underlying72
theorem ti_Fna4ac87ec : tyI Try.prog 73 = some ⟨.func #[3, 59] #[4] false, 1, 8, .nilFunc⟩ := tyI_of (by kernel_rfl) Try.underlying73
theorem ti_Fn20d40a80 : tyI Try.prog 74 = some ⟨.func #[33] #[4] false, 1, 8, .nilFunc⟩ := tyI_of (by kernel_rfl) Try.underlying74
theorem ti_Fnafceab27 : tyI Try.prog 75 = some ⟨.func #[39] #[4] false, 1, 8, .nilFunc⟩ := tyI_of (by kernel_rfl) Try.underlying75
theorem ti_Fncc7431ba : tyI Try.prog 76 = some ⟨.func #[33, 3] #[33] false, 1, 8, .nilFunc⟩ := tyI_of (by kernel_rfl) Try.underlying76
theorem ti_Fnfaea5c8a : tyI Try.prog 77 = some ⟨.func #[39, 33] #[30] true, 1, 8, .nilFunc⟩ := tyI_of (by kernel_rfl) Try.underlying77
theorem ti_Fnd1ff6ff5 : tyI Try.prog 78 = some ⟨.func #[33] #[30] false, 1, 8, .nilFunc⟩ := tyI_of (by kernel_rfl) Try.underlying78
theorem ti_Fnad0794cc : tyI Try.prog 79 = some ⟨.func #[39, 33, 5] #[4] false, 1, 8, .nilFunc⟩ := tyI_of (by kernel_rfl) Try.underlying79
theorem ti_S04c33703 : tyI Try.prog 80 = some ⟨.struct #[⟨ "c", 39, 0, false, "", "revetment/stripe", 0⟩, ⟨ "w", 3, 11, false, "", "revetment/stripe", 88⟩, ⟨ "blocks", 33, 12, false, "", "revetment/stripe", 96⟩], 13, 120, .agg #[.int .i64 0, .int .i64 0, .int .i64 0, .int .i64 0, .int .i64 0, .int .i64 0, .int .i64 0, .int .i64 0, .int .i64 0, .int .i64 0, .int .i64 0, .int .i64 0, .slice none 0 0]⟩ := tyI_of (by kernel_rfl) Try.underlying80
theorem ti_stripe_Buf : tyI Try.prog 81 = some ⟨.struct #[⟨ "c", 39, 0, false, "", "revetment/stripe", 0⟩, ⟨ "w", 3, 11, false, "", "revetment/stripe", 88⟩, ⟨ "blocks", 33, 12, false, "", "revetment/stripe", 96⟩], 13, 120, .agg #[.int .i64 0, .int .i64 0, .int .i64 0, .int .i64 0, .int .i64 0, .int .i64 0, .int .i64 0, .int .i64 0, .int .i64 0, .int .i64 0, .int .i64 0, .int .i64 0, .slice none 0 0]⟩ := tyI_of (by kernel_rfl) Try.underlying81
theorem ti_api_Errno : tyI Try.prog 82 = some ⟨.int .i64, 1, 8, .int .i64 0⟩ := tyI_of (by kernel_rfl) Try.underlying82
theorem ti_Fn36e320b0 : tyI Try.prog 84 = some ⟨.func #[39, 3, 33] #[81, 82] true, 1, 8, .nilFunc⟩ := tyI_of (by kernel_rfl) Try.underlying84
theorem ti_Fnad41f281 : tyI Try.prog 85 = some ⟨.func #[39, 3, 33] #[3] false, 1, 8, .nilFunc⟩ := tyI_of (by kernel_rfl) Try.underlying85
theorem ti_Fnb8a8e443 : tyI Try.prog 86 = some ⟨.func #[39, 33] #[30] false, 1, 8, .nilFunc⟩ := tyI_of (by kernel_rfl) Try.underlying86
theorem ti_Fn1a585f71 : tyI Try.prog 87 = some ⟨.func #[82] #[3] false, 1, 8, .nilFunc⟩ := tyI_of (by kernel_rfl) Try.underlying87
theorem ti_Fndbbfdc53 : tyI Try.prog 88 = some ⟨.func #[81] #[3] false, 1, 8, .nilFunc⟩ := tyI_of (by kernel_rfl) Try.underlying88
theorem ti_Fnda37f363 : tyI Try.prog 89 = some ⟨.func #[81] #[30] false, 1, 8, .nilFunc⟩ := tyI_of (by kernel_rfl) Try.underlying89
theorem ti_Fna0524edf : tyI Try.prog 90 = some ⟨.func #[39, 3, 33] #[4] false, 1, 8, .nilFunc⟩ := tyI_of (by kernel_rfl) Try.underlying90
theorem ti_Fna2588f71 : tyI Try.prog 92 = some ⟨.func #[81, 30] #[81, 30, 82] false, 1, 8, .nilFunc⟩ := tyI_of (by kernel_rfl) Try.underlying92
theorem ti_Fn2ba79cb7 : tyI Try.prog 94 = some ⟨.func #[81, 3] #[30, 4] false, 1, 8, .nilFunc⟩ := tyI_of (by kernel_rfl) Try.underlying94
theorem ti_Fn1ef9344c : tyI Try.prog 95 = some ⟨.func #[39, 33, 30] #[4] false, 1, 8, .nilFunc⟩ := tyI_of (by kernel_rfl) Try.underlying95
theorem ti_wear_Table : tyI Try.prog 96 = some ⟨.array 64 3, 64, 512, .agg #[.int .i64 0, .int .i64 0, .int .i64 0, .int .i64 0, .int .i64 0, .int .i64 0, .int .i64 0, .int .i64 0, .int .i64 0, .int .i64 0, .int .i64 0, .int .i64 0, .int .i64 0, .int .i64 0, .int .i64 0, .int .i64 0, .int .i64 0, .int .i64 0, .int .i64 0, .int .i64 0, .int .i64 0, .int .i64 0, .int .i64 0, .int .i64 0, .int .i64 0, .int .i64 0, .int .i64 0, .int .i64 0, .int .i64 0, .int .i64 0, .int .i64 0, .int .i64 0, .int .i64 0, .int .i64 0, .int .i64 0, .int .i64 0, .int .i64 0, .int .i64 0, .int .i64 0, .int .i64 0, .int .i64 0, .int .i64 0, .int .i64 0, .int .i64 0, .int .i64 0, .int .i64 0, .int .i64 0, .int .i64 0, .int .i64 0, .int .i64 0, .int .i64 0, .int .i64 0, .int .i64 0, .int .i64 0, .int .i64 0, .int .i64 0, .int .i64 0, .int .i64 0, .int .i64 0, .int .i64 0, .int .i64 0, .int .i64 0, .int .i64 0, .int .i64 0]⟩ := tyI_of (by kernel_rfl) Try.underlying96
theorem ti_Fn069ff6ec : tyI Try.prog 97 = some ⟨.func #[3] #[3] false, 1, 8, .nilFunc⟩ := tyI_of (by kernel_rfl) Try.underlying97
theorem ti_A64bool : tyI Try.prog 98 = some ⟨.array 64 4, 64, 64, .agg #[.bool false, .bool false, .bool false, .bool false, .bool false, .bool false, .bool false, .bool false, .bool false, .bool false, .bool false, .bool false, .bool false, .bool false, .bool false, .bool false, .bool false, .bool false, .bool false, .bool false, .bool false, .bool false, .bool false, .bool false, .bool false, .bool false, .bool false, .bool false, .bool false, .bool false, .bool false, .bool false, .bool false, .bool false, .bool false, .bool false, .bool false, .bool false, .bool false, .bool false, .bool false, .bool false, .bool false, .bool false, .bool false, .bool false, .bool false, .bool false, .bool false, .bool false, .bool false, .bool false, .bool false, .bool false, .bool false, .bool false, .bool false, .bool false, .bool false, .bool false, .bool false, .bool false, .bool false, .bool false]⟩ := tyI_of (by kernel_rfl) Try.underlying98
theorem ti_Fna7dedd25 : tyI Try.prog 99 = some ⟨.func #[33] #[30] true, 1, 8, .nilFunc⟩ := tyI_of (by kernel_rfl) Try.underlying99
theorem ti_Fn585f8dd6 : tyI Try.prog 100 = some ⟨.func #[36] #[] false, 1, 8, .nilFunc⟩ := tyI_of (by kernel_rfl) Try.underlying100
theorem ti_iter_Seq_byte_ : tyI Try.prog 101 = some ⟨.func #[36] #[] false, 1, 8, .nilFunc⟩ := tyI_of (by kernel_rfl) Try.underlying101
theorem ti_Fn685f4770 : tyI Try.prog 102 = some ⟨.func #[30, 3] #[101] false, 1, 8, .nilFunc⟩ := tyI_of (by kernel_rfl) Try.underlying102
theorem ti_Fn616305a4 : tyI Try.prog 103 = some ⟨.func #[30] #[30] false, 1, 8, .nilFunc⟩ := tyI_of (by kernel_rfl) Try.underlying103
theorem ti_Fnafe730f1 : tyI Try.prog 104 = some ⟨.func #[30, 3] #[5] false, 1, 8, .nilFunc⟩ := tyI_of (by kernel_rfl) Try.underlying104
theorem ti_Fn9cadab1b : tyI Try.prog 105 = some ⟨.func #[30, 106] #[4] false, 1, 8, .nilFunc⟩ := tyI_of (by kernel_rfl) Try.underlying105
theorem ti_Fne6171480 : tyI Try.prog 106 = some ⟨.func #[5] #[4] false, 1, 8, .nilFunc⟩ := tyI_of (by kernel_rfl) Try.underlying106
theorem ti_Fn3d054427 : tyI Try.prog 107 = some ⟨.func #[] #[39] false, 1, 8, .nilFunc⟩ := tyI_of (by kernel_rfl) Try.underlying107
theorem ti_Fnf6f68b9f : tyI Try.prog 108 = some ⟨.func #[39] #[82] false, 1, 8, .nilFunc⟩ := tyI_of (by kernel_rfl) Try.underlying108
theorem ti_Fna0883688 : tyI Try.prog 109 = some ⟨.func #[39, 44] #[4] false, 1, 8, .nilFunc⟩ := tyI_of (by kernel_rfl) Try.underlying109
theorem ti_Fn5f67d09e : tyI Try.prog 110 = some ⟨.func #[44, 44] #[4] false, 1, 8, .nilFunc⟩ := tyI_of (by kernel_rfl) Try.underlying110
theorem ti_Fnde04cc03 : tyI Try.prog 111 = some ⟨.func #[44, 44] #[44] false, 1, 8, .nilFunc⟩ := tyI_of (by kernel_rfl) Try.underlying111
theorem ti_Fn11b4d893 : tyI Try.prog 112 = some ⟨.func #[40, 110, 111] #[40] false, 1, 8, .nilFunc⟩ := tyI_of (by kernel_rfl) Try.underlying112
theorem ti_A7int : tyI Try.prog 113 = some ⟨.array 7 3, 7, 56, .agg #[.int .i64 0, .int .i64 0, .int .i64 0, .int .i64 0, .int .i64 0, .int .i64 0, .int .i64 0]⟩ := tyI_of (by kernel_rfl) Try.underlying113
theorem ti_Fna367efee : tyI Try.prog 114 = some ⟨.func #[39] #[113] false, 1, 8, .nilFunc⟩ := tyI_of (by kernel_rfl) Try.underlying114
theorem ti_Fn75aecf24 : tyI Try.prog 115 = some ⟨.func #[39] #[50] false, 1, 8, .nilFunc⟩ := tyI_of (by kernel_rfl) Try.underlying115
theorem ti_Fnc0e5ef7f : tyI Try.prog 117 = some ⟨.func #[50, 3, 3, 3] #[50, 3] false, 1, 8, .nilFunc⟩ := tyI_of (by kernel_rfl) Try.underlying117
theorem ti_Fn266816ea : tyI Try.prog 118 = some ⟨.func #[53, 3, 9] #[53] false, 1, 8, .nilFunc⟩ := tyI_of (by kernel_rfl) Try.underlying118
theorem ti_Fnc6de445c : tyI Try.prog 119 = some ⟨.func #[53] #[53] false, 1, 8, .nilFunc⟩ := tyI_of (by kernel_rfl) Try.underlying119
theorem ti_Fnfb54207d : tyI Try.prog 120 = some ⟨.func #[50, 3, 3, 3] #[3] false, 1, 8, .nilFunc⟩ := tyI_of (by kernel_rfl) Try.underlying120
theorem ti_Fn6ebcc797 : tyI Try.prog 121 = some ⟨.func #[50, 3] #[50, 3] false, 1, 8, .nilFunc⟩ := tyI_of (by kernel_rfl) Try.underlying121
theorem ti_Fnd9e91da4 : tyI Try.prog 122 = some ⟨.func #[53, 3, 3] #[53] false, 1, 8, .nilFunc⟩ := tyI_of (by kernel_rfl) Try.underlying122
theorem ti_Sce5ae385 : tyI Try.prog 123 = some ⟨.struct #[⟨ "l", 23, 0, false, "", "revetment/queue", 0⟩, ⟨ "room", 3, 1, false, "", "revetment/queue", 24⟩], 2, 32, .agg #[.slice none 0 0, .int .i64 0]⟩ := tyI_of (by kernel_rfl) Try.underlying123
theorem ti_queue_Queue_int_ : tyI Try.prog 124 = some ⟨.struct #[⟨ "l", 23, 0, false, "", "revetment/queue", 0⟩, ⟨ "room", 3, 1, false, "", "revetment/queue", 24⟩], 2, 32, .agg #[.slice none 0 0, .int .i64 0]⟩ := tyI_of (by kernel_rfl) Try.underlying124
theorem ti_Fn06c45b05 : tyI Try.prog 125 = some ⟨.func #[23] #[23] false, 1, 8, .nilFunc⟩ := tyI_of (by kernel_rfl) Try.underlying125
theorem ti_S746503bf : tyI Try.prog 126 = some ⟨.struct #[⟨ "l", 51, 0, false, "", "revetment/queue", 0⟩, ⟨ "room", 3, 1, false, "", "revetment/queue", 24⟩], 2, 32, .agg #[.slice none 0 0, .int .i64 0]⟩ := tyI_of (by kernel_rfl) Try.underlying126
theorem ti_queue_Queue_string_ : tyI Try.prog 127 = some ⟨.struct #[⟨ "l", 51, 0, false, "", "revetment/queue", 0⟩, ⟨ "room", 3, 1, false, "", "revetment/queue", 24⟩], 2, 32, .agg #[.slice none 0 0, .int .i64 0]⟩ := tyI_of (by kernel_rfl) Try.underlying127
theorem ti_Fne69ec9ae : tyI Try.prog 128 = some ⟨.func #[51] #[51] false, 1, 8, .nilFunc⟩ := tyI_of (by kernel_rfl) Try.underlying128
theorem ti_Fn3d53b686 : tyI Try.prog 129 = some ⟨.func #[30, 30] #[30] false, 1, 8, .nilFunc⟩ := tyI_of (by kernel_rfl) Try.underlying129
theorem ti_Fn1f61ade2 : tyI Try.prog 130 = some ⟨.func #[81] #[4] false, 1, 8, .nilFunc⟩ := tyI_of (by kernel_rfl) Try.underlying130
theorem ti_Fnffd9166b : tyI Try.prog 131 = some ⟨.func #[33] #[33] false, 1, 8, .nilFunc⟩ := tyI_of (by kernel_rfl) Try.underlying131
theorem ti_Fn46664cef : tyI Try.prog 132 = some ⟨.func #[30, 106] #[3] false, 1, 8, .nilFunc⟩ := tyI_of (by kernel_rfl) Try.underlying132
theorem ti_Fn74f184bf : tyI Try.prog 133 = some ⟨.func #[3, 3, 3] #[4] false, 1, 8, .nilFunc⟩ := tyI_of (by kernel_rfl) Try.underlying133
theorem ti_Fn01e7b569 : tyI Try.prog 134 = some ⟨.func #[39] #[23] false, 1, 8, .nilFunc⟩ := tyI_of (by kernel_rfl) Try.underlying134
theorem ti_Fn514f3aff : tyI Try.prog 135 = some ⟨.func #[50, 3] #[3] false, 1, 8, .nilFunc⟩ := tyI_of (by kernel_rfl) Try.underlying135
theorem ti_Fnc8954801 : tyI Try.prog 136 = some ⟨.func #[50, 3, 56] #[50] false, 1, 8, .nilFunc⟩ := tyI_of (by kernel_rfl) Try.underlying136
theorem ti_Fnfbdf3ae5 : tyI Try.prog 137 = some ⟨.func #[50, 3, 3] #[3] false, 1, 8, .nilFunc⟩ := tyI_of (by kernel_rfl) Try.underlying137
theorem ti_Fnb9dd922e : tyI Try.prog 138 = some ⟨.func #[39, 67] #[3] false, 1, 8, .nilFunc⟩ := tyI_of (by kernel_rfl) Try.underlying138
theorem ti_Fnb9582f6e : tyI Try.prog 139 = some ⟨.func #[50] #[4] false, 1, 8, .nilFunc⟩ := tyI_of (by kernel_rfl) Try.underlying139
theorem ti_Fn7b4bea1c : tyI Try.prog 140 = some ⟨.func #[141] #[4] true, 1, 8, .nilFunc⟩ := tyI_of (by kernel_rfl) Try.underlying140
theorem ti_LPint : tyI Try.prog 141 = some ⟨.slice 144, 1, 24, .slice none 0 0⟩ := tyI_of (by kernel_rfl) Try.underlying141
theorem ti_Fnefa4a0f6 : tyI Try.prog 142 = some ⟨.func #[143] #[141] false, 1, 8, .nilFunc⟩ := tyI_of (by kernel_rfl) Try.underlying142
theorem ti_Papi_Conf : tyI Try.prog 143 = some ⟨.pointer 39, 1, 8, .pointer none⟩ := tyI_of (by kernel_rfl) Try.underlying143
theorem ti_Pint : tyI Try.prog 144 = some ⟨.pointer 3, 1, 8, .pointer none⟩ := tyI_of (by kernel_rfl) Try.underlying144
theorem ti_Fnbe20ad36 : tyI Try.prog 145 = some ⟨.func #[] #[9] false, 1, 8, .nilFunc⟩ := tyI_of (by kernel_rfl) Try.underlying145
theorem ti_A0Pruntime_PanicNilError : tyI Try.prog 148 = some ⟨.array 0 16, 0, 0, .agg #[]⟩ := tyI_of (by kernel_rfl) Try.underlying148
theorem ti_See34e4f1 : tyI Try.prog 149 = some ⟨.struct #[⟨ "_", 148, 0, false, "", "runtime", 0⟩], 0, 0, .agg #[]⟩ := tyI_of (by kernel_rfl) Try.underlying149
theorem ti_runtime_PanicNilError : tyI Try.prog 150 = some ⟨.struct #[⟨ "_", 148, 0, false, "", "runtime", 0⟩], 0, 0, .agg #[]⟩ := tyI_of (by kernel_rfl) Try.underlying150
theorem ti_uint32 : tyI Try.prog 151 = some ⟨.int .u32, 1, 4, .int .u32 0⟩ := tyI_of (by kernel_rfl) Try.underlying151
theorem ti_internal_abi_TFlag : tyI Try.prog 152 = some ⟨.int .u8, 1, 1, .int .u8 0⟩ := tyI_of (by kernel_rfl) Try.underlying152
theorem ti_internal_abi_Kind : tyI Try.prog 153 = some ⟨.int .u8, 1, 1, .int .u8 0⟩ := tyI_of (by kernel_rfl) Try.underlying153
theorem ti_Fn19209128 : tyI Try.prog 154 = some ⟨.func #[160, 160] #[4] false, 1, 8, .nilFunc⟩ := tyI_of (by kernel_rfl) Try.underlying154
theorem ti_Puint8 : tyI Try.prog 155 = some ⟨.pointer 5, 1, 8, .pointer none⟩ := tyI_of (by kernel_rfl) Try.underlying155
theorem ti_internal_abi_NameOff : tyI Try.prog 156 = some ⟨.int .i32, 1, 4, .int .i32 0⟩ := tyI_of (by kernel_rfl) Try.underlying156
theorem ti_internal_abi_TypeOff : tyI Try.prog 157 = some ⟨.int .i32, 1, 4, .int .i32 0⟩ := tyI_of (by kernel_rfl) Try.underlying157
theorem mixed : Try.prog.follows .mixedOrders = true := by kernel_rfl
end Go.Proofs.Ytknhemdpfdopaaa.AmF
